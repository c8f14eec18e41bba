/- tally: numbers in range, both sides. -/
import Derived.Test.YtkjkdfhjfnoalaaGreatDoorTqD
import Derived.Deep.SlicePairs
import Derived.ChangeSlices
import Derived.Laws.BitsAllLaws
import Derived.Laws.ShiftsVar
set_option linter.unusedSimpArgs false
set_option linter.unusedVariables false
set_option maxRecDepth 100000
namespace Go.Proofs.YtkjkdfhjfnoalaaGreatDoor
open Go Go.RowKit Num
def okS (P : Int) (ps : List (Int × Int)) : Bool := ps.all fun p => decide (p.1 < P) && decide (p.2 < P)
theorem mem_getD {ps : List (Int × Int)} {k : Nat} {u v : Int} (h : k < ps.length) (hg : ps.getD k (0, 0) = (u, v)) : (u, v) ∈ ps := by
 have e : ps[k]? = some (u, v) := by rw [List.getD_eq_getElem?_getD] at hg; rw [List.getElem?_eq_getElem h] at hg ⊢; simpa using hg
 exact List.mem_of_getElem? e
set_option maxHeartbeats 2000000 in
theorem tr1_any {P Q G x y : Int} {bg : Nat} (w : World) (hg : Boxed w bg P Q G) :
    Calls Tryz.prog 49 #[.agg #[.int .u64 x, .int .u64 y], .pointer (some ⟨bg, 0, none⟩)] w fun e w' => e = .returned (.bool (decide (P ≤ x) || decide (P ≤ y))) ∧ Below w.heap.size w w' := by
  have F_g := Lh (show Boxed (w.alloc (.cells #[.int .u64 x, .int .u64 y] 49)) bg P Q G from hg.alloc _)
  have F_s := Lh (show Pair (w.alloc (.cells #[.int .u64 x, .int .u64 y] 49)) w.heap.size x y from Pair.at _ x y _ w.heap.size rfl)
  clear hg
  have HBW := Lh (show Below w.heap.size w (w.alloc (.cells #[.int .u64 x, .int .u64 y] 49)) from (Below.refl _ _).alloc (Nat.le_refl _) _)
  obtain ⟨x0a, x0b, x0c, -⟩ := id F_g.o
  obtain ⟨x1a, x1b, x1c, x1d, -⟩ := id F_s.o
  by_cases h : P ≤ x
  case pos =>
   have d1 : decide (P ≤ x) = true := by simpa using h
   go_enter Tryz.func49, Tryz.ntmps49
   go_wp2_with fail
   go_ret
   exact ⟨by simp [h], HBW.o⟩
  case neg =>
   have d1 : decide (P ≤ x) = false := by simpa using h
   go_enter Tryz.func49, Tryz.ntmps49
   go_wp2_with fail
   go_ret
   exact ⟨by simp [h], HBW.o⟩
set_option maxHeartbeats 4000000 in
theorem trIndex_any {P Q G : Int} {bg : Nat} {a : Option Addr} {n c : Nat} {ps : List (Int × Int)} (w : World) (hg : Boxed w bg P Q G) (hS : ShS w a n ps) (hn : n ≤ 1000000) :
    Calls Tryz.prog 69 #[.slice a n c, .func (.func 49) #[] #[.pointer (some ⟨bg, 0, none⟩)]] w fun e w' => ∃ r : Int, e = .returned (.int .i64 r) ∧ decide (0 ≤ r) = !(okS P ps) ∧ Below w.heap.size w w' := by
  have HG := Lh hg
  have HS := Lh hS
  have HL := Lh hS.len
  clear hg hS
  have c26 : Tryz.prog.cellsOf 49 = 2 := by kernel_rfl
  have HBW := Lh (Below.refl w.heap.size w)
  go_enter Tryz.func69, Tryz.ntmps69
  go_wp2_with fail
  go_loopw [5, 8] (fun c5 c8 wr => ∃ i : Nat, i ≤ n ∧ c8 = .int .i64 i ∧ Hid (∀ j, j < i → okS P [ps.getD j (0, 0)] = true) ∧ Hid (Below w.heap.size w wr)) (fun _ c8 _ => n - (intOf c8).toNat)
  case atStart => exact ⟨0, Nat.zero_le _, rfl, (fun j hj => by omega), HBW.o⟩
  case round =>
   clear HBW
   obtain ⟨i, hi, rfl, HA, HBW⟩ := hrel
   by_cases hlt : i < n
   case neg =>
    have HZ := Lh (show okS P ps = true by
     rw [okS, List.all_eq_true]
     intro p hp
     obtain ⟨j, hj, rfl⟩ := List.mem_iff_getElem.1 hp
     have := HA.o j (by have := HL.o; omega)
     rw [List.getD_eq_getElem?_getD, List.getElem?_eq_getElem hj] at this
     simpa [okS] using this)
    go_wp2_with fail
    go_ret
    exact ⟨_, rfl, by rw [HZ.o]; rfl, HBW.o⟩
   case pos =>
    have hi0 : (0 : Int) ≤ (i : Int) := by omega
    have hi1 : (i : Int) < (n : Int) := by omega
    have hwi : IntKind.i64.wrap ((i : Int) + 1) = (i : Int) + 1 := IntWalk.i64_in _ (by omega)
    obtain ⟨s, o, hsa, hsl, hc0, hc1⟩ := (HS.o.keep HBW.o).at i hlt
    obtain ⟨x, y, hxy⟩ : ∃ x y, ps.getD i (0, 0) = (x, y) := ⟨_, _, rfl⟩
    rw [hxy] at hc0 hc1
    have HXY := Lh hxy
    subst hsa
    clear hxy
    go_wp2_with fail
    clear hc0 hc1
    refine (tr1_any _ (HG.o.keep HBW.o)).mono ?_
    rintro e w1 ⟨rfl, hb1⟩
    replace HBW := Lh (HBW.o.trans (hb1.mono HBW.o.size))
    clear hb1 hsl
    cases hv : (decide (P ≤ x) || decide (P ≤ y)) with
    | true =>
     have HZ := Lh (show okS P ps = false by
      rw [okS, List.all_eq_false]
      refine ⟨(x, y), mem_getD (by have := HL.o; omega) HXY.o, ?_⟩
      simp at hv ⊢
      rcases hv with h | h <;> omega)
     clear hv
     go_wp2_with fail
     go_ret
     exact ⟨_, rfl, by rw [HZ.o]; simp, HBW.o⟩
    | false =>
     have HA2 := Lh (show ∀ j, j < i + 1 → okS P [ps.getD j (0, 0)] = true from fun j hj => by
      by_cases e : j < i
      · exact HA.o j e
      · obtain rfl : j = i := by omega
        rw [HXY.o]
        simp at hv
        simp [okS]
        omega)
     clear hv
     go_wp2_with fail
     go_roundw
     case rel => exact ⟨i + 1, by omega, by go_num, HA2.o, HBW.o⟩
     case measure => simp [intOf] <;> omega
set_option maxHeartbeats 2000000 in
theorem trContains_any {P Q G : Int} {bg : Nat} {a : Option Addr} {n c : Nat} {ps : List (Int × Int)} (w : World) (hg : Boxed w bg P Q G) (hS : ShS w a n ps) (hn : n ≤ 1000000) :
    Calls Tryz.prog 50 #[.slice a n c, .func (.func 49) #[] #[.pointer (some ⟨bg, 0, none⟩)]] w fun e w' => e = .returned (.bool (!(okS P ps))) ∧ Below w.heap.size w w' := by
  have HG := Lh hg
  have HS := Lh hS
  clear hg hS
  go_enter Tryz.func50, Tryz.ntmps50
  go_wp2_with fail
  refine (trIndex_any _ HG.o HS.o hn).mono ?_
  rintro e w1 ⟨r, rfl, hr, hb1⟩
  have HB := Lh hb1
  have HZ := Lh hr
  clear hb1 hr
  go_wp2_with fail
  go_ret
  exact ⟨by rw [← HZ.o]; rfl, HB.o⟩
set_option maxHeartbeats 2000000 in
theorem tranged_any {P Q G : Int} {a : Option Addr} {n c : Nat} {ps : List (Int × Int)} (w : World) (hS : ShS w a n ps) (hn : n ≤ 1000000) :
    Calls Tryz.prog 29 #[.agg #[.int .u64 P, .int .u64 Q, .int .u64 G], .slice a n c] w fun e w' => e = .returned (.bool (okS P ps)) ∧ Below w.heap.size w w' := by
  have HS := Lh (hS.alloc (.cells #[.int .u64 P, .int .u64 Q, .int .u64 G] 24))
  have HG := Lh (Boxed.new w P Q G 24)
  have HBW := Lh (show Below w.heap.size w (w.alloc (.cells #[.int .u64 P, .int .u64 Q, .int .u64 G] 24)) from (Below.refl _ _).alloc (Nat.le_refl _) _)
  clear hS
  go_enter Tryz.func29, Tryz.ntmps29
  go_wp2_with fail
  refine (trContains_any _ HG.o HS.o hn).mono ?_
  rintro e w1 ⟨rfl, hb1⟩
  replace HBW := Lh (HBW.o.trans (hb1.mono HBW.o.size))
  clear hb1
  go_wp2_with fail
  go_ret
  exact ⟨by simp, HBW.o⟩
set_option maxHeartbeats 4000000 in
theorem rranged_any {P Q G : Int} {a : Option Addr} {n c : Nat} {ps : List (Int × Int)} (w : World) (hS : ShS w a n ps) (hn : n ≤ 1000000) :
    Calls Tryz.prog 41 #[.agg #[.int .u64 P, .int .u64 Q, .int .u64 G], .slice a n c] w fun e w' => e = .returned (.bool (okS P ps)) ∧ Below w.heap.size w w' := by
  have HS := Lh hS
  have HL := Lh hS.len
  have HG := Lh (Boxed.new w P Q G 24)
  have HBW := Lh (show Below w.heap.size w (w.alloc (.cells #[.int .u64 P, .int .u64 Q, .int .u64 G] 24)) from (Below.refl _ _).alloc (Nat.le_refl _) _)
  clear hS
  have c26 : Tryz.prog.cellsOf 49 = 2 := by kernel_rfl
  go_enter Tryz.func41, Tryz.ntmps41
  go_wp2_with fail
  go_loopw [5] (fun c5 wr => ∃ i : Nat, i ≤ n ∧ c5 = .int .i64 i ∧ Hid (∀ j, j < i → okS P [ps.getD j (0, 0)] = true) ∧ Hid (Boxed wr w.heap.size P Q G) ∧ Hid (Below w.heap.size w wr)) (fun c5 _ => n - (intOf c5).toNat)
  case atStart => exact ⟨0, Nat.zero_le _, rfl, (fun j hj => by omega), HG.o, HBW.o⟩
  case round =>
   clear HBW HG
   obtain ⟨i, hi, rfl, HA, HG, HBW⟩ := hrel
   obtain ⟨x0a, x0b, x0c, -⟩ := id HG.o
   by_cases hlt : i < n
   case neg =>
    have HZ := Lh (show okS P ps = true by
     rw [okS, List.all_eq_true]
     intro p hp
     obtain ⟨j, hj, rfl⟩ := List.mem_iff_getElem.1 hp
     have := HA.o j (by have := HL.o; omega)
     rw [List.getD_eq_getElem?_getD, List.getElem?_eq_getElem hj] at this
     simpa [okS] using this)
    go_wp2_with fail
    go_ret
    exact ⟨by rw [HZ.o]; rfl, HBW.o⟩
   case pos =>
    have hi0 : (0 : Int) ≤ (i : Int) := by omega
    have hi1 : (i : Int) < (n : Int) := by omega
    have hwi : IntKind.i64.wrap ((i : Int) + 1) = (i : Int) + 1 := IntWalk.i64_in _ (by omega)
    obtain ⟨s, o, hsa, hsl, hc0, hc1⟩ := (HS.o.keep HBW.o).at i hlt
    obtain ⟨x, y, hxy⟩ : ∃ x y, ps.getD i (0, 0) = (x, y) := ⟨_, _, rfl⟩
    rw [hxy] at hc0 hc1
    have HXY := Lh hxy
    subst hsa
    clear hxy
    by_cases h1 : P ≤ x
    case pos =>
     have d1 : decide (P ≤ x) = true := by simpa using h1
     have HZ := Lh (show okS P ps = false by
      rw [okS, List.all_eq_false]
      exact ⟨(x, y), mem_getD (by have := HL.o; omega) HXY.o, by simp; omega⟩)
     go_wp2_with fail
     go_region
     go_wp2_with fail
     go_ret
     exact ⟨by rw [HZ.o]; rfl, HBW.o.drew⟩
    case neg =>
     have d1 : decide (P ≤ x) = false := by simpa using h1
     by_cases h2 : P ≤ y
     case pos =>
      have d2 : decide (P ≤ y) = true := by simpa using h2
      have HZ := Lh (show okS P ps = false by
       rw [okS, List.all_eq_false]
       exact ⟨(x, y), mem_getD (by have := HL.o; omega) HXY.o, by simp; omega⟩)
      go_wp2_with fail
      go_region
      go_wp2_with fail
      go_ret
      exact ⟨by rw [HZ.o]; rfl, HBW.o.drew⟩
     case neg =>
      have d2 : decide (P ≤ y) = false := by simpa using h2
      have HA2 := Lh (show ∀ j, j < i + 1 → okS P [ps.getD j (0, 0)] = true from fun j hj => by
       by_cases e : j < i
       · exact HA.o j e
       · obtain rfl : j = i := by omega
         rw [HXY.o]
         simp [okS]
         omega)
      go_wp2_with fail
      go_region
      go_wp2_with fail
      go_roundw
      case rel => exact ⟨i + 1, by omega, by go_num, HA2.o, HG.o.drew, HBW.o.drew⟩
      case measure => simp [intOf] <;> omega
def numT (Q i : Int) : Bool := decide (1 ≤ i) && decide (i ≤ 8) && decide (i < Q)
theorem numT_true {Q i : Int} (h : numT Q i = true) : 1 ≤ i ∧ i ≤ 8 ∧ i < Q := by
 simp only [numT, Bool.and_eq_true, decide_eq_true_eq] at h
 exact ⟨h.1.1, h.1.2, h.2⟩
set_option maxHeartbeats 2000000 in
theorem tnumbered_any {P Q G i : Int} {v : Bool} (w : World) (il : -9223372036854775808 ≤ i) (iu : i ≤ 9223372036854775807) (hv : numT Q i = v) :
    Calls Tryz.prog 13 #[.agg #[.int .u64 P, .int .u64 Q, .int .u64 G], .int .i64 i] w fun e w' => e = .returned (.bool v) ∧ Below w.heap.size w w' := by
  by_cases h0 : 1 ≤ i
  case neg =>
   have HZ := Lh (show false = v by rw [← hv]; simp [numT, h0])
   have d0 : decide (1 ≤ i) = false := by simpa using h0
   clear hv
   have F_g := Lh (show Boxed (w.alloc (.cells #[.int .u64 P, .int .u64 Q, .int .u64 G] 24)) (w.heap.size) P Q G from Boxed.at _ P Q G _ (w.heap.size) (by simp))
   have HBW := Lh (show Below w.heap.size w (w.alloc (.cells #[.int .u64 P, .int .u64 Q, .int .u64 G] 24)) from (Below.refl _ _).alloc (by simp <;> omega) _)
   go_enter Tryz.func13, Tryz.ntmps13
   obtain ⟨x0a, x0b, x0c, -⟩ := id F_g.o
   go_wp2_with fail
   go_ret
   exact ⟨ret_bool HZ.o, HBW.o⟩
  case pos =>
   have d0 : decide (1 ≤ i) = true := by simpa using h0
   by_cases h1 : i ≤ 8
   case neg =>
    have HZ := Lh (show false = v by rw [← hv]; simp [numT, h1])
    have d1 : decide (i ≤ 8) = false := by simpa using h1
    clear hv
    have F_g := Lh (show Boxed (w.alloc (.cells #[.int .u64 P, .int .u64 Q, .int .u64 G] 24)) (w.heap.size) P Q G from Boxed.at _ P Q G _ (w.heap.size) (by simp))
    have HBW := Lh (show Below w.heap.size w (w.alloc (.cells #[.int .u64 P, .int .u64 Q, .int .u64 G] 24)) from (Below.refl _ _).alloc (by simp <;> omega) _)
    go_enter Tryz.func13, Tryz.ntmps13
    obtain ⟨x0a, x0b, x0c, -⟩ := id F_g.o
    go_wp2_with fail
    go_ret
    exact ⟨ret_bool HZ.o, HBW.o⟩
   case pos =>
    have d1 : decide (i ≤ 8) = true := by simpa using h1
    have hw : IntKind.u64.wrap i = i := wrap_u (by omega) (by omega)
    by_cases h2 : i < Q
    case neg =>
     have HZ := Lh (show false = v by rw [← hv]; simp [numT, h2])
     have d2 : decide (i < Q) = false := by simpa using h2
     clear hv
     have F_g := Lh (show Boxed (w.alloc (.cells #[.int .u64 P, .int .u64 Q, .int .u64 G] 24)) (w.heap.size) P Q G from Boxed.at _ P Q G _ (w.heap.size) (by simp))
     have HBW := Lh (show Below w.heap.size w (w.alloc (.cells #[.int .u64 P, .int .u64 Q, .int .u64 G] 24)) from (Below.refl _ _).alloc (by simp <;> omega) _)
     go_enter Tryz.func13, Tryz.ntmps13
     obtain ⟨x0a, x0b, x0c, -⟩ := id F_g.o
     go_wp2_with fail
     go_ret
     exact ⟨ret_bool HZ.o, HBW.o⟩
    case pos =>
     have HZ := Lh (show true = v by rw [← hv]; simp [numT, h0, h1, h2])
     have d2 : decide (i < Q) = true := by simpa using h2
     clear hv
     have F_g := Lh (show Boxed (w.alloc (.cells #[.int .u64 P, .int .u64 Q, .int .u64 G] 24)) (w.heap.size) P Q G from Boxed.at _ P Q G _ (w.heap.size) (by simp))
     have HBW := Lh (show Below w.heap.size w (w.alloc (.cells #[.int .u64 P, .int .u64 Q, .int .u64 G] 24)) from (Below.refl _ _).alloc (by simp <;> omega) _)
     go_enter Tryz.func13, Tryz.ntmps13
     obtain ⟨x0a, x0b, x0c, -⟩ := id F_g.o
     go_wp2_with fail
     go_ret
     exact ⟨ret_bool HZ.o, HBW.o⟩
set_option maxHeartbeats 2000000 in
theorem rtnumbered_any {P Q G i : Int} {v : Bool} (w : World) (il : -9223372036854775808 ≤ i) (iu : i ≤ 9223372036854775807) (hv : numT Q i = v) :
    Calls Tryz.prog 20 #[.agg #[.int .u64 P, .int .u64 Q, .int .u64 G], .int .i64 i] w fun e w' => e = .returned (.bool v) ∧ Below w.heap.size w w' := by
  by_cases h0 : 1 ≤ i
  case neg =>
   have HZ := Lh (show false = v by rw [← hv]; simp [numT, h0])
   have d0 : decide (1 ≤ i) = false := by simpa using h0
   clear hv
   have F_g := Lh (show Boxed (w.alloc (.cells #[.int .u64 P, .int .u64 Q, .int .u64 G] 24)) (w.heap.size) P Q G from Boxed.at _ P Q G _ (w.heap.size) (by simp))
   have HBW := Lh (show Below w.heap.size w (w.alloc (.cells #[.int .u64 P, .int .u64 Q, .int .u64 G] 24)) from (Below.refl _ _).alloc (by simp <;> omega) _)
   go_enter Tryz.func20, Tryz.ntmps20
   obtain ⟨x0a, x0b, x0c, -⟩ := id F_g.o
   go_wp2_with fail
   go_ret
   exact ⟨ret_bool HZ.o, HBW.o⟩
  case pos =>
   have d0 : decide (1 ≤ i) = true := by simpa using h0
   by_cases h1 : i ≤ 8
   case neg =>
    have HZ := Lh (show false = v by rw [← hv]; simp [numT, h1])
    have d1 : decide (i ≤ 8) = false := by simpa using h1
    clear hv
    have F_g := Lh (show Boxed (w.alloc (.cells #[.int .u64 P, .int .u64 Q, .int .u64 G] 24)) (w.heap.size) P Q G from Boxed.at _ P Q G _ (w.heap.size) (by simp))
    have HBW := Lh (show Below w.heap.size w (w.alloc (.cells #[.int .u64 P, .int .u64 Q, .int .u64 G] 24)) from (Below.refl _ _).alloc (by simp <;> omega) _)
    go_enter Tryz.func20, Tryz.ntmps20
    obtain ⟨x0a, x0b, x0c, -⟩ := id F_g.o
    go_wp2_with fail
    go_ret
    exact ⟨ret_bool HZ.o, HBW.o⟩
   case pos =>
    have d1 : decide (i ≤ 8) = true := by simpa using h1
    have hw : IntKind.u64.wrap i = i := wrap_u (by omega) (by omega)
    by_cases h2 : i < Q
    case neg =>
     have HZ := Lh (show false = v by rw [← hv]; simp [numT, h2])
     have d2 : decide (i < Q) = false := by simpa using h2
     clear hv
     have F_g := Lh (show Boxed (w.alloc (.cells #[.int .u64 P, .int .u64 Q, .int .u64 G] 24)) (w.heap.size) P Q G from Boxed.at _ P Q G _ (w.heap.size) (by simp))
     have HBW := Lh (show Below w.heap.size w (w.alloc (.cells #[.int .u64 P, .int .u64 Q, .int .u64 G] 24)) from (Below.refl _ _).alloc (by simp <;> omega) _)
     go_enter Tryz.func20, Tryz.ntmps20
     obtain ⟨x0a, x0b, x0c, -⟩ := id F_g.o
     go_wp2_with fail
     go_ret
     exact ⟨ret_bool HZ.o, HBW.o⟩
    case pos =>
     have HZ := Lh (show true = v by rw [← hv]; simp [numT, h0, h1, h2])
     have d2 : decide (i < Q) = true := by simpa using h2
     clear hv
     have F_g := Lh (show Boxed (w.alloc (.cells #[.int .u64 P, .int .u64 Q, .int .u64 G] 24)) (w.heap.size) P Q G from Boxed.at _ P Q G _ (w.heap.size) (by simp))
     have HBW := Lh (show Below w.heap.size w (w.alloc (.cells #[.int .u64 P, .int .u64 Q, .int .u64 G] 24)) from (Below.refl _ _).alloc (by simp <;> omega) _)
     go_enter Tryz.func20, Tryz.ntmps20
     obtain ⟨x0a, x0b, x0c, -⟩ := id F_g.o
     go_wp2_with fail
     go_ret
     exact ⟨ret_bool HZ.o, HBW.o⟩
def sumdS (P : Int) (ps : List (Int × Int)) : Bool := decide (1 ≤ ps.length) && decide (ps.length ≤ 10) && okS P ps
theorem sumdS_true {P : Int} {ps : List (Int × Int)} (h : sumdS P ps = true) : 1 ≤ ps.length ∧ ps.length ≤ 10 ∧ ∀ p, p ∈ ps → p.1 < P ∧ p.2 < P := by
 simp only [sumdS, Bool.and_eq_true, decide_eq_true_eq, okS, List.all_eq_true] at h
 exact ⟨h.1.1, h.1.2, h.2⟩
set_option maxHeartbeats 2000000 in
theorem tsummed_any {P Q G : Int} {a : Option Addr} {n c : Nat} {ps : List (Int × Int)} {v : Bool} (w : World) (hS : ShS w a n ps) (hv : sumdS P ps = v) :
    Calls Tryz.prog 14 #[.agg #[.int .u64 P, .int .u64 Q, .int .u64 G], .slice a n c] w fun e w' => e = .returned (.bool v) ∧ Below w.heap.size w w' := by
  have HL := Lh hS.len
  by_cases h1 : 1 ≤ n
  case neg =>
   have d1 : decide ((1 : Int) ≤ (n : Int)) = false := by simp; omega
   have e1 : ¬ ((1 : Int) ≤ (n : Int)) := by omega
   have HZ := Lh (show false = v by rw [← hv, sumdS, decide_eq_false (show ¬ (1 ≤ ps.length) by have := HL.o; omega)]; rfl)
   have F_g := Lh (Boxed.new w P Q G 24)
   have HBW := Lh (show Below w.heap.size w (w.alloc (.cells #[.int .u64 P, .int .u64 Q, .int .u64 G] 24)) from (Below.refl _ _).alloc (Nat.le_refl _) _)
   have HS := Lh hS
   clear hS hv
   go_enter Tryz.func14, Tryz.ntmps14
   obtain ⟨x0a, x0b, x0c, -⟩ := id F_g.o
   go_wp2_with fail
   go_ret
   exact ⟨ret_bool HZ.o, HBW.o⟩
  case pos =>
   have d1 : decide ((1 : Int) ≤ (n : Int)) = true := by simp; omega
   have e1 : (1 : Int) ≤ (n : Int) := by omega
   by_cases h2 : n ≤ 10
   case neg =>
    have d2 : decide ((n : Int) ≤ 10) = false := by simp; omega
    have e2 : ¬ ((n : Int) ≤ 10) := by omega
    have HZ := Lh (show false = v by rw [← hv, sumdS, decide_eq_false (show ¬ (ps.length ≤ 10) by have := HL.o; omega), Bool.and_false]; rfl)
    have F_g := Lh (Boxed.new w P Q G 24)
    have HBW := Lh (show Below w.heap.size w (w.alloc (.cells #[.int .u64 P, .int .u64 Q, .int .u64 G] 24)) from (Below.refl _ _).alloc (Nat.le_refl _) _)
    have HS := Lh hS
    clear hS hv
    go_enter Tryz.func14, Tryz.ntmps14
    obtain ⟨x0a, x0b, x0c, -⟩ := id F_g.o
    go_wp2_with fail
    go_ret
    exact ⟨ret_bool HZ.o, HBW.o⟩
   case pos =>
    have d2 : decide ((n : Int) ≤ 10) = true := by simp; omega
    have e2 : (n : Int) ≤ 10 := by omega
    have HZ := Lh (show okS P ps = v by rw [← hv, sumdS, decide_eq_true (show 1 ≤ ps.length by have := HL.o; omega), decide_eq_true (show ps.length ≤ 10 by have := HL.o; omega)]; rfl)
    have F_g := Lh (Boxed.new w P Q G 24)
    have HBW := Lh (show Below w.heap.size w (w.alloc (.cells #[.int .u64 P, .int .u64 Q, .int .u64 G] 24)) from (Below.refl _ _).alloc (Nat.le_refl _) _)
    have HS := Lh hS
    clear hS hv
    go_enter Tryz.func14, Tryz.ntmps14
    obtain ⟨x0a, x0b, x0c, -⟩ := id F_g.o
    go_wp2_with fail
    clear x0a x0b x0c
    refine (tranged_any _ (HS.o.keep HBW.o) (by omega)).mono ?_
    rintro e w1 ⟨rfl, hb1⟩
    replace HBW := Lh (HBW.o.trans (hb1.mono HBW.o.size))
    clear hb1
    go_wp2_with fail
    go_ret
    exact ⟨ret_bool HZ.o, HBW.o⟩
set_option maxHeartbeats 2000000 in
theorem rsummed_any {P Q G : Int} {a : Option Addr} {n c : Nat} {ps : List (Int × Int)} {v : Bool} (w : World) (hS : ShS w a n ps) (hv : sumdS P ps = v) :
    Calls Tryz.prog 21 #[.agg #[.int .u64 P, .int .u64 Q, .int .u64 G], .slice a n c] w fun e w' => e = .returned (.bool v) ∧ Below w.heap.size w w' := by
  have HL := Lh hS.len
  by_cases h1 : 1 ≤ n
  case neg =>
   have d1 : decide ((1 : Int) ≤ (n : Int)) = false := by simp; omega
   have e1 : ¬ ((1 : Int) ≤ (n : Int)) := by omega
   have HZ := Lh (show false = v by rw [← hv, sumdS, decide_eq_false (show ¬ (1 ≤ ps.length) by have := HL.o; omega)]; rfl)
   have F_g := Lh (Boxed.new w P Q G 24)
   have HBW := Lh (show Below w.heap.size w (w.alloc (.cells #[.int .u64 P, .int .u64 Q, .int .u64 G] 24)) from (Below.refl _ _).alloc (Nat.le_refl _) _)
   have HS := Lh hS
   clear hS hv
   go_enter Tryz.func21, Tryz.ntmps21
   obtain ⟨x0a, x0b, x0c, -⟩ := id F_g.o
   go_wp2_with fail
   go_ret
   exact ⟨ret_bool HZ.o, HBW.o⟩
  case pos =>
   have d1 : decide ((1 : Int) ≤ (n : Int)) = true := by simp; omega
   have e1 : (1 : Int) ≤ (n : Int) := by omega
   by_cases h2 : n ≤ 10
   case neg =>
    have d2 : decide ((n : Int) ≤ 10) = false := by simp; omega
    have e2 : ¬ ((n : Int) ≤ 10) := by omega
    have HZ := Lh (show false = v by rw [← hv, sumdS, decide_eq_false (show ¬ (ps.length ≤ 10) by have := HL.o; omega), Bool.and_false]; rfl)
    have F_g := Lh (Boxed.new w P Q G 24)
    have HBW := Lh (show Below w.heap.size w (w.alloc (.cells #[.int .u64 P, .int .u64 Q, .int .u64 G] 24)) from (Below.refl _ _).alloc (Nat.le_refl _) _)
    have HS := Lh hS
    clear hS hv
    go_enter Tryz.func21, Tryz.ntmps21
    obtain ⟨x0a, x0b, x0c, -⟩ := id F_g.o
    go_wp2_with fail
    go_ret
    exact ⟨ret_bool HZ.o, HBW.o⟩
   case pos =>
    have d2 : decide ((n : Int) ≤ 10) = true := by simp; omega
    have e2 : (n : Int) ≤ 10 := by omega
    have HZ := Lh (show okS P ps = v by rw [← hv, sumdS, decide_eq_true (show 1 ≤ ps.length by have := HL.o; omega), decide_eq_true (show ps.length ≤ 10 by have := HL.o; omega)]; rfl)
    have F_g := Lh (Boxed.new w P Q G 24)
    have HBW := Lh (show Below w.heap.size w (w.alloc (.cells #[.int .u64 P, .int .u64 Q, .int .u64 G] 24)) from (Below.refl _ _).alloc (Nat.le_refl _) _)
    have HS := Lh hS
    clear hS hv
    go_enter Tryz.func21, Tryz.ntmps21
    obtain ⟨x0a, x0b, x0c, -⟩ := id F_g.o
    go_wp2_with fail
    clear x0a x0b x0c
    refine (rranged_any _ (HS.o.keep HBW.o) (by omega)).mono ?_
    rintro e w1 ⟨rfl, hb1⟩
    replace HBW := Lh (HBW.o.trans (hb1.mono HBW.o.size))
    clear hb1
    go_wp2_with fail
    go_ret
    exact ⟨ret_bool HZ.o, HBW.o⟩
set_option maxHeartbeats 2000000 in
theorem tb1_any {L x : Int} {bl : Nat} (w : World) (hl : w.cell? ⟨bl, 0, none⟩ = some (.int .u64 L)) :
    Calls Tryz.prog 30 #[.int .u64 x, .pointer (some ⟨bl, 0, none⟩)] w fun e w' => e = .returned (.bool (decide (L ≤ x))) ∧ Below w.heap.size w w' := by
  by_cases h : L ≤ x
  case pos =>
   have d1 : decide (L ≤ x) = true := by simpa using h
   go_enter Tryz.func30, Tryz.ntmps30
   go_wp2_with fail
   go_ret
   exact ⟨by simp [h], Below.refl _ _⟩
  case neg =>
   have d1 : decide (L ≤ x) = false := by simpa using h
   go_enter Tryz.func30, Tryz.ntmps30
   go_wp2_with fail
   go_ret
   exact ⟨by simp [h], Below.refl _ _⟩
theorem cell_keep {w w' : World} {b : Nat} {v : Value} (h : w.cell? ⟨b, 0, none⟩ = some v) (hb : Below w.heap.size w w') : w'.cell? ⟨b, 0, none⟩ = some v := (hb.cell (p := ⟨b, 0, none⟩) (World.block_lt_of_cell? w _ h)).trans h
set_option maxHeartbeats 4000000 in
theorem tbIndex_any {L : Int} {bl : Nat} {a : Option Addr} {n c : Nat} {xs : List Int} (w : World) (hg : w.cell? ⟨bl, 0, none⟩ = some (.int .u64 L)) (hS : ShI .u64 w a n xs) (hn : n ≤ 1000000) :
    Calls Tryz.prog 51 #[.slice a n c, .func (.func 30) #[] #[.pointer (some ⟨bl, 0, none⟩)]] w fun e w' => ∃ r : Int, e = .returned (.int .i64 r) ∧ decide (0 ≤ r) = !(okAll L xs) ∧ Below w.heap.size w w' := by
  have HG := Lh hg
  have HS := Lh hS
  have HL := Lh hS.len
  clear hg hS
  have HBW := Lh (Below.refl w.heap.size w)
  go_enter Tryz.func51, Tryz.ntmps51
  go_wp2_with fail
  go_loopw [5, 8] (fun c5 c8 wr => ∃ i : Nat, i ≤ n ∧ c8 = .int .i64 i ∧ Hid (okAll L (xs.take i) = true) ∧ Hid (Below w.heap.size w wr)) (fun _ c8 _ => n - (intOf c8).toNat)
  case atStart => exact ⟨0, Nat.zero_le _, rfl, rfl, HBW.o⟩
  case round =>
   clear HBW
   obtain ⟨i, hi, rfl, HK, HBW⟩ := hrel
   by_cases hlt : i < n
   case neg =>
    have HZ := Lh (okAll_end L xs i (by rw [← HL.o]; omega) HK.o)
    go_wp2_with fail
    go_ret
    exact ⟨_, rfl, by rw [HZ.o]; rfl, HBW.o⟩
   case pos =>
    have hi0 : (0 : Int) ≤ (i : Int) := by omega
    have hi1 : (i : Int) < (n : Int) := by omega
    have hwi : IntKind.i64.wrap ((i : Int) + 1) = (i : Int) + 1 := IntWalk.i64_in _ (by omega)
    obtain ⟨s, o, hsa, hsl, hck, -⟩ := (HS.o.keep HBW.o).at i hlt
    have hlx : i < xs.length := by rw [← HL.o]; exact hlt
    have hsn := okAll_snoc L xs i hlx
    have hno := okAll_not L xs i hlx
    rw [HK.o] at hsn
    generalize xs.getD i 0 = x at hck hsn hno
    have HN := Lh hno
    have HT := Lh hsn
    clear hno hsn hlx
    subst hsa
    go_wp2_with fail
    clear hck
    refine (tb1_any _ (cell_keep HG.o HBW.o)).mono ?_
    rintro e w1 ⟨rfl, hb1⟩
    replace HBW := Lh (HBW.o.trans (hb1.mono HBW.o.size))
    clear hb1 hsl
    by_cases hx : x < L
    case neg =>
     have hd2 : decide (L ≤ x) = true := by simp; omega
     have HZ := Lh (show okAll L xs = false from HN.o (by omega))
     rw [hd2]
     clear hd2
     go_wp2_with fail
     go_ret
     exact ⟨_, rfl, by rw [HZ.o]; simp, HBW.o⟩
    case pos =>
     have hd2 : decide (L ≤ x) = false := by simp; omega
     have HA2 := Lh (show okAll L (xs.take (i + 1)) = true by rw [HT.o]; simpa using hx)
     rw [hd2]
     clear hd2
     go_wp2_with fail
     go_roundw
     case rel => exact ⟨i + 1, by omega, by go_num, HA2.o, HBW.o⟩
     case measure => simp [intOf] <;> omega
set_option maxHeartbeats 2000000 in
theorem tbContains_any {L : Int} {bl : Nat} {a : Option Addr} {n c : Nat} {xs : List Int} (w : World) (hg : w.cell? ⟨bl, 0, none⟩ = some (.int .u64 L)) (hS : ShI .u64 w a n xs) (hn : n ≤ 1000000) :
    Calls Tryz.prog 31 #[.slice a n c, .func (.func 30) #[] #[.pointer (some ⟨bl, 0, none⟩)]] w fun e w' => e = .returned (.bool (!(okAll L xs))) ∧ Below w.heap.size w w' := by
  have HG := Lh hg
  have HS := Lh hS
  clear hg hS
  go_enter Tryz.func31, Tryz.ntmps31
  go_wp2_with fail
  refine (tbIndex_any _ HG.o HS.o hn).mono ?_
  rintro e w1 ⟨r, rfl, hr, hb1⟩
  have HB := Lh hb1
  have HZ := Lh hr
  clear hb1 hr
  go_wp2_with fail
  go_ret
  exact ⟨by rw [← HZ.o]; rfl, HB.o⟩
set_option maxHeartbeats 2000000 in
theorem tbelow_any {L : Int} {a : Option Addr} {n c : Nat} {xs : List Int} (w : World) (hS : ShI .u64 w a n xs) (hn : n ≤ 1000000) :
    Calls Tryz.prog 15 #[.slice a n c, .int .u64 L] w fun e w' => e = .returned (.bool (okAll L xs)) ∧ Below w.heap.size w w' := by
  have HS := Lh (hS.keep ((Below.refl _ _).alloc (Nat.le_refl _) (.cells #[.int .u64 L] 22)))
  have HG := Lh (show (w.alloc (.cells #[.int .u64 L] 22)).cell? ⟨w.heap.size, 0, none⟩ = some (.int .u64 L) by rw [World.cell?_alloc_new]; rfl)
  have HBW := Lh (show Below w.heap.size w (w.alloc (.cells #[.int .u64 L] 22)) from (Below.refl _ _).alloc (Nat.le_refl _) _)
  clear hS
  go_enter Tryz.func15, Tryz.ntmps15
  go_wp2_with fail
  refine (tbContains_any _ HG.o HS.o hn).mono ?_
  rintro e w1 ⟨rfl, hb1⟩
  replace HBW := Lh (HBW.o.trans (hb1.mono HBW.o.size))
  clear hb1
  go_wp2_with fail
  go_ret
  exact ⟨by simp, HBW.o⟩
set_option maxHeartbeats 2000000 in
theorem rtbelow_any {L : Int} {a : Option Addr} {n c : Nat} {xs : List Int} (w : World) (hS : ShI .u64 w a n xs) (hn : n ≤ 1000000) :
    Calls Tryz.prog 22 #[.slice a n c, .int .u64 L] w fun e w' => e = .returned (.bool (okAll L xs)) ∧ Below w.heap.size w w' := by
  have HS := Lh hS
  have HL := Lh hS.len
  clear hS
  go_enter Tryz.func22, Tryz.ntmps22
  go_wp2_with fail
  go_loop [5] (fun c5 => ∃ k : Nat, k ≤ n ∧ c5 = .int .i64 k ∧ Hid (okAll L (xs.take k) = true)) (fun c5 => n - (intOf c5).toNat)
  case atStart => exact ⟨0, Nat.zero_le _, rfl, rfl⟩
  case round =>
   obtain ⟨k, hk, rfl, HK⟩ := hrel
   by_cases hlt : k < n
   case neg =>
    have HZ := Lh (okAll_end L xs k (by rw [← HL.o]; omega) HK.o)
    have d5 : decide ((k : Int) < (n : Int)) = false := by simp; omega
    go_wp2_with fail
    go_ret
    exact ⟨by rw [HZ.o]; rfl, Below.refl _ _⟩
   case pos =>
    obtain ⟨s, o, hsa, hsl, hck, -⟩ := HS.o.at k hlt
    have hlx : k < xs.length := by rw [← HL.o]; exact hlt
    have hsn := okAll_snoc L xs k hlx
    have hno := okAll_not L xs k hlx
    rw [HK.o] at hsn
    generalize xs.getD k 0 = x at hck hsn hno
    have HN := Lh hno
    have HT := Lh hsn
    clear hno hsn hlx
    subst hsa
    have hk0 : (0 : Int) ≤ (k : Int) := by omega
    have hk1 : (k : Int) < (n : Int) := by omega
    have d5 : decide ((k : Int) < (n : Int)) = true := by simp; omega
    by_cases hx : x < L
    case neg =>
     have hd2 : decide (L ≤ x) = true := by simp; omega
     have HZ := Lh (show okAll L xs = false from HN.o (by omega))
     go_wp2_with fail
     go_ret
     exact ⟨by rw [HZ.o]; rfl, Below.refl _ _⟩
    case pos =>
     have hd2 : decide (L ≤ x) = false := by simp; omega
     go_wp2_with fail
     go_round
     case rel => exact ⟨k + 1, by omega, by go_num, (by show okAll L (xs.take (k + 1)) = true; rw [HT.o]; simpa using hx)⟩
     case measure => simp [intOf]; omega
set_option maxHeartbeats 2000000 in
theorem tpledged_any {P Q G : Int} {a : Option Addr} {n c : Nat} {ps : List Int} {v : Bool} (w : World) (hS : ShI .u64 w a n ps) (hv : belowS P ps = v) :
    Calls Tryz.prog 24 #[.agg #[.int .u64 P, .int .u64 Q, .int .u64 G], .slice a n c] w fun e w' => e = .returned (.bool v) ∧ Below w.heap.size w w' := by
  have HL := Lh hS.len
  by_cases h1 : 1 ≤ n
  case neg =>
   have d1 : decide ((1 : Int) ≤ (n : Int)) = false := by simp; omega
   have e1 : ¬ ((1 : Int) ≤ (n : Int)) := by omega
   have HZ := Lh (show false = v by rw [← hv, belowS, decide_eq_false (show ¬ (1 ≤ ps.length) by have := HL.o; omega)]; rfl)
   have F_g := Lh (Boxed.new w P Q G 24)
   have HBW := Lh (show Below w.heap.size w (w.alloc (.cells #[.int .u64 P, .int .u64 Q, .int .u64 G] 24)) from (Below.refl _ _).alloc (Nat.le_refl _) _)
   have HS := Lh hS
   clear hS hv
   go_enter Tryz.func24, Tryz.ntmps24
   obtain ⟨x0a, x0b, x0c, -⟩ := id F_g.o
   go_wp2_with fail
   go_ret
   exact ⟨ret_bool HZ.o, HBW.o⟩
  case pos =>
   have d1 : decide ((1 : Int) ≤ (n : Int)) = true := by simp; omega
   have e1 : (1 : Int) ≤ (n : Int) := by omega
   by_cases h2 : n ≤ 8
   case neg =>
    have d2 : decide ((n : Int) ≤ 8) = false := by simp; omega
    have e2 : ¬ ((n : Int) ≤ 8) := by omega
    have HZ := Lh (show false = v by rw [← hv, belowS, decide_eq_false (show ¬ (ps.length ≤ 8) by have := HL.o; omega), Bool.and_false]; rfl)
    have F_g := Lh (Boxed.new w P Q G 24)
    have HBW := Lh (show Below w.heap.size w (w.alloc (.cells #[.int .u64 P, .int .u64 Q, .int .u64 G] 24)) from (Below.refl _ _).alloc (Nat.le_refl _) _)
    have HS := Lh hS
    clear hS hv
    go_enter Tryz.func24, Tryz.ntmps24
    obtain ⟨x0a, x0b, x0c, -⟩ := id F_g.o
    go_wp2_with fail
    go_ret
    exact ⟨ret_bool HZ.o, HBW.o⟩
   case pos =>
    have d2 : decide ((n : Int) ≤ 8) = true := by simp; omega
    have e2 : (n : Int) ≤ 8 := by omega
    have HZ := Lh (show okAll P ps = v by rw [← hv, belowS, decide_eq_true (show 1 ≤ ps.length by have := HL.o; omega), decide_eq_true (show ps.length ≤ 8 by have := HL.o; omega)]; rfl)
    have F_g := Lh (Boxed.new w P Q G 24)
    have HBW := Lh (show Below w.heap.size w (w.alloc (.cells #[.int .u64 P, .int .u64 Q, .int .u64 G] 24)) from (Below.refl _ _).alloc (Nat.le_refl _) _)
    have HS := Lh hS
    clear hS hv
    go_enter Tryz.func24, Tryz.ntmps24
    obtain ⟨x0a, x0b, x0c, -⟩ := id F_g.o
    go_wp2_with fail
    clear x0a x0b x0c
    refine (tbelow_any _ (HS.o.keep HBW.o) (by omega)).mono ?_
    rintro e w1 ⟨rfl, hb1⟩
    replace HBW := Lh (HBW.o.trans (hb1.mono HBW.o.size))
    clear hb1
    go_wp2_with fail
    go_ret
    exact ⟨ret_bool HZ.o, HBW.o⟩
set_option maxHeartbeats 2000000 in
theorem rpledged_any {P Q G : Int} {a : Option Addr} {n c : Nat} {ps : List Int} {v : Bool} (w : World) (hS : ShI .u64 w a n ps) (hv : belowS P ps = v) :
    Calls Tryz.prog 26 #[.agg #[.int .u64 P, .int .u64 Q, .int .u64 G], .slice a n c] w fun e w' => e = .returned (.bool v) ∧ Below w.heap.size w w' := by
  have HL := Lh hS.len
  by_cases h1 : 1 ≤ n
  case neg =>
   have d1 : decide ((1 : Int) ≤ (n : Int)) = false := by simp; omega
   have e1 : ¬ ((1 : Int) ≤ (n : Int)) := by omega
   have HZ := Lh (show false = v by rw [← hv, belowS, decide_eq_false (show ¬ (1 ≤ ps.length) by have := HL.o; omega)]; rfl)
   have F_g := Lh (Boxed.new w P Q G 24)
   have HBW := Lh (show Below w.heap.size w (w.alloc (.cells #[.int .u64 P, .int .u64 Q, .int .u64 G] 24)) from (Below.refl _ _).alloc (Nat.le_refl _) _)
   have HS := Lh hS
   clear hS hv
   go_enter Tryz.func26, Tryz.ntmps26
   obtain ⟨x0a, x0b, x0c, -⟩ := id F_g.o
   go_wp2_with fail
   go_ret
   exact ⟨ret_bool HZ.o, HBW.o⟩
  case pos =>
   have d1 : decide ((1 : Int) ≤ (n : Int)) = true := by simp; omega
   have e1 : (1 : Int) ≤ (n : Int) := by omega
   by_cases h2 : n ≤ 8
   case neg =>
    have d2 : decide ((n : Int) ≤ 8) = false := by simp; omega
    have e2 : ¬ ((n : Int) ≤ 8) := by omega
    have HZ := Lh (show false = v by rw [← hv, belowS, decide_eq_false (show ¬ (ps.length ≤ 8) by have := HL.o; omega), Bool.and_false]; rfl)
    have F_g := Lh (Boxed.new w P Q G 24)
    have HBW := Lh (show Below w.heap.size w (w.alloc (.cells #[.int .u64 P, .int .u64 Q, .int .u64 G] 24)) from (Below.refl _ _).alloc (Nat.le_refl _) _)
    have HS := Lh hS
    clear hS hv
    go_enter Tryz.func26, Tryz.ntmps26
    obtain ⟨x0a, x0b, x0c, -⟩ := id F_g.o
    go_wp2_with fail
    go_ret
    exact ⟨ret_bool HZ.o, HBW.o⟩
   case pos =>
    have d2 : decide ((n : Int) ≤ 8) = true := by simp; omega
    have e2 : (n : Int) ≤ 8 := by omega
    have HZ := Lh (show okAll P ps = v by rw [← hv, belowS, decide_eq_true (show 1 ≤ ps.length by have := HL.o; omega), decide_eq_true (show ps.length ≤ 8 by have := HL.o; omega)]; rfl)
    have F_g := Lh (Boxed.new w P Q G 24)
    have HBW := Lh (show Below w.heap.size w (w.alloc (.cells #[.int .u64 P, .int .u64 Q, .int .u64 G] 24)) from (Below.refl _ _).alloc (Nat.le_refl _) _)
    have HS := Lh hS
    clear hS hv
    go_enter Tryz.func26, Tryz.ntmps26
    obtain ⟨x0a, x0b, x0c, -⟩ := id F_g.o
    go_wp2_with fail
    clear x0a x0b x0c
    refine (rtbelow_any _ (HS.o.keep HBW.o) (by omega)).mono ?_
    rintro e w1 ⟨rfl, hb1⟩
    replace HBW := Lh (HBW.o.trans (hb1.mono HBW.o.size))
    clear hb1
    go_wp2_with fail
    go_ret
    exact ⟨ret_bool HZ.o, HBW.o⟩
open Go.ChangeShapes Go.WideShapes Go.ChangeAt Go Go.RowKit Num
theorem flat_at {α : Type} (f : α → List Value) (k : Nat) (hk : ∀ x, (f x).length = k) : ∀ (l : List α) (i j : Nat) (hi : i < l.length), j < k → (l.flatMap f)[i * k + j]? = (f l[i])[j]?
  | [], i, j, hi, _ => by simp at hi
  | x :: l, 0, j, _, hj => by
   rw [Nat.zero_mul, Nat.zero_add, List.flatMap_cons, List.getElem?_append_left (by rw [hk]; exact hj)]
   rfl
  | x :: l, i + 1, j, hi, hj => by
   have h := flat_at f k hk l i j (by simpa using hi) hj
   rw [List.flatMap_cons, List.getElem?_append_right (by rw [hk, Nat.add_mul]; omega), hk, show (i + 1) * k + j - k = i * k + j by rw [Nat.add_mul]; omega, h]
   rfl
theorem flat_len {α : Type} (f : α → List Value) (k : Nat) (hk : ∀ x, (f x).length = k) : ∀ l : List α, (l.flatMap f).length = l.length * k
  | [] => by simp
  | x :: l => by rw [List.flatMap_cons, List.length_append, hk, flat_len f k hk l, List.length_cons, Nat.add_mul]; omega
structure Eq3 where
  r : Int
  s : Int
  z : Int
def Eq3.vs (x : Eq3) : List Value := [.int .u64 x.r, .int .u64 x.s, .int .u64 x.z]
def Eq3.v (x : Eq3) : Value := .agg #[.int .u64 x.r, .int .u64 x.s, .int .u64 x.z]
def Eq3.u (x : Eq3) : Prop := U64 x.r ∧ U64 x.s ∧ U64 x.z
def Eq3.zero : Eq3 := ⟨0, 0, 0⟩
theorem Eq3.vs_len (x : Eq3) : x.vs.length = 3 := rfl
theorem Eq3.vs_one (x : Eq3) (u : Value) (h : u ∈ x.vs) : u.oneCell' = true := by
 simp only [Eq3.vs, List.mem_cons, List.not_mem_nil, or_false] at h
 rcases h with rfl | rfl | rfl <;> rfl
def ShQ (w : World) (a : Option Addr) (n : Nat) (l : List Eq3) : Prop := (n = 0 ∧ l = []) ∨ ∃ s o, a = some ⟨s, o, none⟩ ∧ n = l.length ∧ s < w.heap.size ∧ ∀ i (h : i < l.length), ∀ k u, l[i].vs[k]? = some u → w.cell? ⟨s, o + i * 3 + k, none⟩ = some u
theorem ShQ.len {w : World} {a : Option Addr} {n : Nat} {l : List Eq3} (h : ShQ w a n l) : n = l.length := by
 rcases h with ⟨h1, h2⟩ | ⟨s, o, _, h1, _⟩
 · rw [h1, h2]; rfl
 · exact h1
theorem ShQ.keep {w w' : World} {a : Option Addr} {n : Nat} {l : List Eq3} (h : ShQ w a n l) (hb : Below w.heap.size w w') : ShQ w' a n l := by
 rcases h with h | ⟨s, o, h0, h1, h2, h3⟩
 · exact .inl h
 · exact .inr ⟨s, o, h0, h1, Nat.lt_of_lt_of_le h2 hb.size, fun i hi k u hu => (hb.cell (p := ⟨s, o + i * 3 + k, none⟩) h2).trans (h3 i hi k u hu)⟩
theorem ShQ.nil (w : World) (a : Option Addr) : ShQ w a 0 [] := .inl ⟨rfl, rfl⟩
theorem ShQ.at {w : World} {a : Option Addr} {n : Nat} {l : List Eq3} (h : ShQ w a n l) (k : Nat) (hk : k < n) : ∃ s o x, a = some ⟨s, o, none⟩ ∧ l[k]? = some x ∧ s < w.heap.size ∧ w.cell? ⟨s, o + k * 3, none⟩ = some (.int .u64 x.r) ∧ w.cell? ⟨s, o + k * 3 + 1, none⟩ = some (.int .u64 x.s) ∧ w.cell? ⟨s, o + k * 3 + 2, none⟩ = some (.int .u64 x.z) := by
 rcases h with ⟨h1, _⟩ | ⟨s, o, h0, h1, h2, h3⟩
 · omega
 · have hl : k < l.length := by omega
   exact ⟨s, o, l[k], h0, List.getElem?_eq_getElem hl, h2, h3 k hl 0 _ rfl, h3 k hl 1 _ rfl, h3 k hl 2 _ rfl⟩
theorem ShQ.of_owned {w : World} {base : Nat} {e : TypeId} {v : Value} {n : Nat} {l : List Eq3} (h : w.ownsRow base e 3 v n (l.flatMap Eq3.vs)) : ∃ a c, v = .slice a n c ∧ ShQ w a n l := by
 have hl := h.1
 rw [flat_len Eq3.vs 3 Eq3.vs_len] at hl
 rcases h.2 with ⟨rfl, h0⟩ | ⟨g, cap, cur, rfl, hb, hg, hn, _⟩
 · subst h0
   have : l = [] := List.eq_nil_of_length_eq_zero (by omega)
   subst this
   exact ⟨none, 0, rfl, ShQ.nil w _⟩
 · refine ⟨_, _, rfl, .inr ⟨g, 0, rfl, by omega, (h.lt g rfl).2, fun i hi k u hu => ?_⟩⟩
   have hk : k < 3 := by have := (List.getElem?_eq_some_iff.1 hu).1; rwa [Eq3.vs_len] at this
   have hc := h.cells (g := g) rfl (i * 3 + k) u (by rw [flat_at Eq3.vs 3 Eq3.vs_len l i k hi hk]; exact hu)
   rw [add_pl] at hc
   rwa [show 0 + i * 3 + k = 0 + (i * 3 + k) by omega]
structure Qt where
  t : Int
  a : Option Addr
  n : Nat
  c : Nat
  xs : List Int
  b : Option Addr
  m : Nat
  d : Nat
  es : List Eq3
def Qt.vs (p : Qt) : List Value := [.int .i64 p.t, .slice p.a p.n p.c, .slice p.b p.m p.d]
def Qt.v (p : Qt) : Value := .agg #[.int .i64 p.t, .slice p.a p.n p.c, .slice p.b p.m p.d]
structure QtIn (w : World) (p : Qt) : Prop where
  t0 : -9223372036854775808 ≤ p.t
  t1 : p.t ≤ 9223372036854775807
  h1 : ShI .u64 w p.a p.n p.xs
  u1 : ∀ x, x ∈ p.xs → U64 x
  h2 : ShQ w p.b p.m p.es
  u2 : ∀ x, x ∈ p.es → x.u
theorem QtIn.keep {w w' : World} {p : Qt} (h : QtIn w p) (hb : Below w.heap.size w w') : QtIn w' p := ⟨h.t0, h.t1, h.h1.keep hb, h.u1, h.h2.keep hb, h.u2⟩
theorem list3 : ∀ (l : List Value), l.length = 3 → ∃ a b c, l = [a, b, c]
  | [a, b, c], _ => ⟨a, b, c, rfl⟩
section
variable {H : Type} {enc : TypeId × Value → H} {w : World} {base : Nat} {held : Bool} {r : Reach} {b0 : Nat} {v : Value} {d : DataW H} {p : List MemPlace}
theorem equal_cells {fuel : Nat} {cs : List Value} {x : DataW H × List MemPlace} (h2 : cs.length = 3) (hf : DataW.trod enc Tryz.prog w base (fun _ => true) held fuel 53 cs = some x) : ∃ z : Eq3, cs = z.vs ∧ z.u := by
 obtain ⟨x0, x1, x2, hl⟩ := list3 _ h2
 rw [hl] at hf
 obtain ⟨xs, k, hk, hxy, _, hxl, hff⟩ := DataW.trod_struct Tryz.underlying53 hf
 match xs, hxl with
 | [y0, y1, y2], _ =>
  have c1 : Tryz.prog.cellsOf 22 = 1 := by kernel_rfl
  have g0 := hff 0 _ rfl
  have g1 := hff 1 _ rfl
  have g2 := hff 2 _ rfl
  simp [c1] at g0 g1 g2
  obtain ⟨r, e0, -, wr⟩ := DataW.trod_int Tryz.underlying22 g0
  obtain ⟨s, e1, -, ws⟩ := DataW.trod_int Tryz.underlying22 g1
  obtain ⟨z, e2, -, wz⟩ := DataW.trod_int Tryz.underlying22 g2
  simp at e0 e1 e2
  subst e0 e1 e2
  exact ⟨⟨r, s, z⟩, hl, U64.wf wr, U64.wf ws, U64.wf wz⟩
theorem equals_cells {fuel : Nat} {v0 : Value} {y : DataW H × List MemPlace} (hf : DataW.trod enc Tryz.prog w base (fun _ => true) held fuel 27 [v0] = some y) :
    ∃ a n c es, v0 = .slice a n c ∧ ShQ w a n es ∧ (∀ q, q ∈ es → q.u) := by
  have c8 : Tryz.prog.cellsOf 53 = 3 := by kernel_rfl
  rcases Deep.open_slice Tryz.underlying27 hf with ⟨hcs, -⟩ | ⟨a, l0, c0, m, n, D, Pl, hcs, -, hl, hm, hmm, -, hx⟩
  · simp at hcs
    exact ⟨none, 0, 0, [], hcs, .inl ⟨rfl, rfl⟩, (fun q hq => by cases hq)⟩
  · simp at hcs
    subst hcs
    have hmc : m = c0 := by simpa using hmm
    have each : ∀ i, i < l0 → ∃ q : Eq3, (∀ k u, q.vs[k]? = some u → w.cell? (a.add (i * 3 + k)) = some u) ∧ q.u := by
     intro i hi
     obtain ⟨cs', h1, h2⟩ := hx i (by omega)
     rw [c8] at h1
     obtain ⟨_, hlen, hcell⟩ := World.cells?_some h1
     obtain ⟨z, rfl, hz⟩ := equal_cells hlen h2
     refine ⟨z, fun k u hu => ?_, hz⟩
     have hk : k < 3 := by have := (List.getElem?_eq_some_iff.1 hu).1; simpa [Eq3.vs] using this
     have := hcell k hk
     rw [Deep.add_add] at this
     rw [this]; exact hu
    obtain ⟨q, hq⟩ : ∃ q : Nat → Eq3, ∀ i, i < l0 → (∀ k u, (q i).vs[k]? = some u → w.cell? (a.add (i * 3 + k)) = some u) ∧ (q i).u := ⟨fun i => if h : i < l0 then Classical.choose (each i h) else Eq3.zero, fun i hi => by
     simp only [hi, dif_pos]
     exact Classical.choose_spec (each i hi)⟩
    by_cases hl0 : l0 = 0
    · subst hl0
      exact ⟨_, _, _, [], rfl, .inl ⟨rfl, rfl⟩, (fun q hq => by cases hq)⟩
    · obtain ⟨b, off, spot⟩ := a
      have g0 := (hq 0 (by omega)).1 0 _ rfl
      have hspot : spot = none := by simpa [Addr.add] using World.cell?_spot g0
      subst hspot
      have hlt : b < w.heap.size := by have := World.block_lt_of_cell? w _ g0; simpa [add_pl] using this
      refine ⟨_, _, _, (List.range l0).map q, rfl, .inr ⟨b, off, rfl, by simp, hlt, fun i hi k u hu => ?_⟩, fun z hz => ?_⟩
      · have hi' : i < l0 := by simpa using hi
        have e : ((List.range l0).map q)[i] = q i := by simp
        rw [e] at hu
        have := (hq i hi').1 k u hu
        rwa [add_pl, ← Nat.add_assoc] at this
      · obtain ⟨i, hi, rfl⟩ := List.mem_map.1 hz
        exact (hq i (by simpa using hi)).2
theorem open_numsF {P : Program} {H : Type} {enc : TypeId × Value → H} {w : World} {base : Nat} {held : Bool} {t e : TypeId} {q : IntKind} {fuel : Nat} {v0 : Value} {y : DataW H × List MemPlace} (ht : P.underlying t = some (.slice e)) (he : P.underlying e = some (.int q)) (hc1 : P.cellsOf e = 1) (hf : DataW.trod enc P w base (fun _ => true) held fuel t [v0] = some y) :
    ∃ a n c xs, v0 = .slice a n c ∧ ShI q w a n xs ∧ (∀ x, x ∈ xs → (Lit.int q x).wf = true) ∧ (a = none → c = 0) ∧ n ≤ c ∧ c ≤ 9223372036854775807 := by
  rcases open_ints ht he hc1 hf with ⟨hcs, -⟩ | ⟨a, len, cap, zs, hcs, -, hl, hm, hz, -, hcell, hw⟩
  · simp at hcs
    exact ⟨none, 0, 0, [], hcs, .inl ⟨rfl, rfl⟩, (fun q hq => by cases hq), (fun _ => rfl), Nat.le_refl _, Nat.zero_le _⟩
  · simp at hcs
    subst hcs
    have hmc : zs.length = cap := by simpa using hz
    by_cases hl0 : len = 0
    · subst hl0
      exact ⟨_, _, _, [], rfl, .inl ⟨rfl, rfl⟩, (fun q hq => by cases hq), (fun h => by cases h), hl, by unfold maxLen at hm; omega⟩
    · obtain ⟨b, off, spot⟩ := a
      have g0 := hcell 0 (by omega)
      have hspot : spot = none := by simpa [Addr.add] using World.cell?_spot g0
      subst hspot
      have hlt : b < w.heap.size := by
       have := World.block_lt_of_cell? w _ g0
       simpa [add_plain'] using this
      refine ⟨_, _, _, zs.take len, rfl, .inr ⟨b, off, rfl, by simp; omega, hlt, fun i hi => ?_⟩, fun z hz => hw z (List.mem_of_mem_take hz), (fun h => by cases h), hl, by unfold maxLen at hm; omega⟩
      have hi' : i < len ∧ i < zs.length := by simp at hi; omega
      have e : (zs.take len).getD i 0 = zs.getD i 0 := by simp [List.getD_eq_getElem?_getD, List.getElem?_take, hi'.1]
      rw [e, ← add_plain']; exact hcell i hi'.2
theorem wf_i64 {x : Int} (h : (Lit.int .i64 x).wf = true) : -9223372036854775808 ≤ x ∧ x ≤ 9223372036854775807 := by
 have h := bounds_i64 h
 exact ⟨h.1, by have := h.2; omega⟩
theorem part_cells {fuel : Nat} {cs : List Value} {x : DataW H × List MemPlace} (h2 : cs.length = 3) (hf : DataW.trod enc Tryz.prog w base (fun _ => true) held fuel 29 cs = some x) : ∃ p : Qt, cs = p.vs ∧ QtIn w p := by
 obtain ⟨x0, x1, x2, hl⟩ := list3 _ h2
 rw [hl] at hf
 obtain ⟨xs, k, hk, hxy, _, hxl, hff⟩ := DataW.trod_struct Tryz.underlying29 hf
 match xs, hxl with
 | [y0, y1, y2], _ =>
  have c0 : Tryz.prog.cellsOf 3 = 1 := by kernel_rfl
  have c1 : Tryz.prog.cellsOf 26 = 1 := by kernel_rfl
  have c2 : Tryz.prog.cellsOf 27 = 1 := by kernel_rfl
  have g0 := hff 0 _ rfl
  have g1 := hff 1 _ rfl
  have g2 := hff 2 _ rfl
  simp [c0, c1, c2] at g0 g1 g2
  obtain ⟨t, e0, -, wt⟩ := DataW.trod_int Tryz.underlying3 g0
  simp at e0
  obtain ⟨a, n, c, ns, rfl, q1, q2, q3, -⟩ := open_numsF Tryz.underlying26 Tryz.underlying22 (by kernel_rfl) g1
  obtain ⟨b, m, dd, es, rfl, q4, q5⟩ := equals_cells g2
  have ht := wf_i64 wt
  subst e0
  exact ⟨⟨t, a, n, c, ns, b, m, dd, es⟩, hl, ht.1, ht.2, q1, fun x hx => U64.wf (q2 x hx), q4, q5⟩
theorem open_sealeds (hv : Value.okWide Tryz.prog w r b0 25 v) (h : DataW.Trod enc Tryz.prog w base (fun _ => true) held 25 v d p) :
    ∃ a n c ps, v = .slice a n c ∧ ShS w a n ps ∧ (∀ q, q ∈ ps → U64 q.1 ∧ U64 q.2) ∧ (a = none → c = 0) ∧ n ≤ c := by
  obtain ⟨a0, l0, c0, rfl⟩ := okWide_slice Tryz.underlying25 hv
  obtain ⟨fuel, hf⟩ := h
  exact sealeds_cells hf
theorem open_part (hv : Value.okWide Tryz.prog w r b0 29 v) (h : DataW.Trod enc Tryz.prog w base (fun _ => true) held 29 v d p) :
    ∃ q : Qt, v = q.v ∧ QtIn w q := by
  obtain ⟨cs, rfl, hsz⟩ := okWide_struct Tryz.underlying29 hv
  obtain ⟨fuel, hf⟩ := h
  simp only [Value.cells] at hf
  have h2 : cs.toList.length = 3 := by rw [Array.length_toList, hsz]; kernel_rfl
  obtain ⟨q, hl, hq⟩ := part_cells h2 hf
  refine ⟨q, ?_, hq⟩
  unfold Qt.v
  congr 1
  exact Array.toList_inj.1 hl
end
end Go.Proofs.YtkjkdfhjfnoalaaGreatDoor
namespace Go.Proofs.YtkjkdfhjfnoalaaGreatDoor.Sha
open Go
def U32 (x : Int) : Prop := 0 ≤ x ∧ x < 4294967296
theorem wrapM (x : Int) : IntKind.u32.wrap x = x % 4294967296 := by simp [IntKind.wrap, IntKind.bits, IntKind.signed]
def M (x : Int) : Int := x % 4294967296
def B (x : Int) : BitVec 32 := BitVec.ofInt 32 x
theorem B_toNat (v : BitVec 32) : B (v.toNat : Int) = v := by
 unfold B; rw [BitVec.ofInt_natCast]; simp
theorem toNat_lt (v : BitVec 32) : (v.toNat : Int) < 4294967296 := by have := v.isLt; omega
theorem wrap_toNat (v : BitVec 32) : IntKind.u32.wrap (v.toNat : Int) = v.toNat := by
 rw [wrapM]; have := toNat_lt v; omega
theorem xorB (x y : Int) : bits .xor .u32 x y = ((B x ^^^ B y).toNat : Int) := wrap_toNat _
theorem andB (x y : Int) : bits .and .u32 x y = ((B x &&& B y).toNat : Int) := wrap_toNat _
theorem orB (x y : Int) : bits .or .u32 x y = ((B x ||| B y).toNat : Int) := wrap_toNat _
theorem orI_comm (x y : Int) : bits .or .u32 x y = bits .or .u32 y x := by rw [orB, orB, BitVec.or_comm]
def rot (x : Int) (n : Nat) : Int := bits .or .u32 (x / 2 ^ n) (M (x * 2 ^ (32 - n)))
def sig0 (x : Int) : Int := bits .xor .u32 (bits .xor .u32 (rot x 7) (rot x 18)) (x / 8)
def sig1 (x : Int) : Int := bits .xor .u32 (bits .xor .u32 (rot x 17) (rot x 19)) (x / 1024)
def big1 (e : Int) : Int := bits .xor .u32 (bits .xor .u32 (rot e 6) (rot e 11)) (rot e 25)
def big0 (a : Int) : Int := bits .xor .u32 (bits .xor .u32 (rot a 2) (rot a 13)) (rot a 22)
def ch (e f g : Int) : Int := bits .xor .u32 g (bits .and .u32 e (bits .xor .u32 f g))
def mj (a b c : Int) : Int := bits .or .u32 (bits .and .u32 a (bits .or .u32 b c)) (bits .and .u32 b c)
theorem ch_eq (e f g : Int) : bits .or .u32 (bits .and .u32 e f) (bits .and .u32 (bits .xor .u32 (-1) e) g) = ch e f g := by
 unfold ch
 have h1 : B (-1) = BitVec.allOnes 32 := by decide
 simp only [xorB, andB, orB, B_toNat, h1]
 congr 2
 ext i hi
 simp only [B, BitVec.getElem_or, BitVec.getElem_and, BitVec.getElem_xor, BitVec.getElem_allOnes]
 generalize (BitVec.ofInt 32 e)[i] = x
 generalize (BitVec.ofInt 32 f)[i] = y
 generalize (BitVec.ofInt 32 g)[i] = z
 cases x <;> cases y <;> cases z <;> rfl
theorem mj_eq (a b c : Int) : bits .or .u32 (bits .or .u32 (bits .and .u32 a b) (bits .and .u32 a c)) (bits .and .u32 b c) = mj a b c := by
 unfold mj
 simp only [xorB, andB, orB, B_toNat]
 congr 2
 ext i hi
 simp [B]
 generalize (BitVec.ofInt 32 a)[i] = x
 generalize (BitVec.ofInt 32 b)[i] = y
 generalize (BitVec.ofInt 32 c)[i] = z
 cases x <;> cases y <;> cases z <;> rfl
def kTab : List Int := [0x428a2f98, 0x71374491, 0xb5c0fbcf, 0xe9b5dba5, 0x3956c25b, 0x59f111f1, 0x923f82a4, 0xab1c5ed5, 0xd807aa98, 0x12835b01, 0x243185be, 0x550c7dc3, 0x72be5d74, 0x80deb1fe, 0x9bdc06a7, 0xc19bf174, 0xe49b69c1, 0xefbe4786, 0x0fc19dc6, 0x240ca1cc, 0x2de92c6f, 0x4a7484aa, 0x5cb0a9dc, 0x76f988da, 0x983e5152, 0xa831c66d, 0xb00327c8, 0xbf597fc7, 0xc6e00bf3, 0xd5a79147, 0x06ca6351, 0x14292967, 0x27b70a85, 0x2e1b2138, 0x4d2c6dfc, 0x53380d13, 0x650a7354, 0x766a0abb, 0x81c2c92e, 0x92722c85, 0xa2bfe8a1, 0xa81a664b, 0xc24b8b70, 0xc76c51a3, 0xd192e819, 0xd6990624, 0xf40e3585, 0x106aa070, 0x19a4c116, 0x1e376c08, 0x2748774c, 0x34b0bcb5, 0x391c0cb3, 0x4ed8aa4a, 0x5b9cca4f, 0x682e6ff3, 0x748f82ee, 0x78a5636f, 0x84c87814, 0x8cc70208, 0x90befffa, 0xa4506ceb, 0xbef9a3f7, 0xc67178f2]
def kAt (t : Nat) : Int := kTab.getD t 0
def wordAt (p : List Int) (o : Nat) : Int := p.getD o 0 * 16777216 + p.getD (o + 1) 0 * 65536 + p.getD (o + 2) 0 * 256 + p.getD (o + 3) 0
def ws (p : List Int) (o : Nat) (t : Nat) : Int :=
  if h : t < 16 then wordAt p (o + 4 * t) else M (ws p o (t - 16) + sig0 (ws p o (t - 15)) + ws p o (t - 7) + sig1 (ws p o (t - 2)))
termination_by t
theorem ws_lo (p : List Int) (o t : Nat) (h : t < 16) : ws p o t = wordAt p (o + 4 * t) := by rw [ws, dif_pos h]
theorem ws_hi (p : List Int) (o t : Nat) (h : ¬ t < 16) : ws p o t = M (ws p o (t - 16) + sig0 (ws p o (t - 15)) + ws p o (t - 7) + sig1 (ws p o (t - 2))) := by rw [ws, dif_neg h]
structure S8 where
  a : Int
  b : Int
  c : Int
  d : Int
  e : Int
  f : Int
  g : Int
  h : Int
structure S8.Ok (s : S8) : Prop where
  a : U32 s.a
  b : U32 s.b
  c : U32 s.c
  d : U32 s.d
  e : U32 s.e
  f : U32 s.f
  g : U32 s.g
  h : U32 s.h
def xOf (s : S8) (k w : Int) : Int := M (s.h + big1 s.e + ch s.e s.f s.g + k + w)
def yOf (s : S8) : Int := M (big0 s.a + mj s.a s.b s.c)
def rnd (s : S8) (k w : Int) : S8 := ⟨M (xOf s k w + yOf s), s.a, s.b, s.c, M (s.d + xOf s k w), s.e, s.f, s.g⟩
def rnds (p : List Int) (o : Nat) (s : S8) : Nat → S8
  | 0 => s
  | t + 1 => rnd (rnds p o s t) (kAt t) (ws p o t)
def add8 (s v : S8) : S8 := ⟨M (s.a + v.a), M (s.b + v.b), M (s.c + v.c), M (s.d + v.d), M (s.e + v.e), M (s.f + v.f), M (s.g + v.g), M (s.h + v.h)⟩
def stepS (p : List Int) (o : Nat) (s : S8) : S8 := add8 s (rnds p o s 64)
def firstS : S8 := ⟨0x6a09e667, 0xbb67ae85, 0x3c6ef372, 0xa54ff53a, 0x510e527f, 0x9b05688c, 0x1f83d9ab, 0x5be0cd19⟩
def blocks (p : List Int) : Nat → S8
  | 0 => firstS
  | n + 1 => stepS p (64 * n) (blocks p n)
def zerosN (n : Nat) : Nat := (64 - (n + 9) % 64) % 64
def be8 (n : Int) : List Int := (List.range 8).map fun i => n / 2 ^ (56 - 8 * i) % 256
def padS (b : List Int) : List Int := b ++ (128 :: (List.replicate (zerosN b.length) 0 ++ be8 (b.length * 8)))
theorem be8_len (n : Int) : (be8 n).length = 8 := by simp [be8]
theorem padS_len (b : List Int) : (padS b).length = b.length + 9 + zerosN b.length := by simp [padS, be8_len]; omega
theorem padS_mod (b : List Int) : (padS b).length % 64 = 0 := by rw [padS_len]; unfold zerosN; omega
def S8.l (s : S8) : List Int := [s.a, s.b, s.c, s.d, s.e, s.f, s.g, s.h]
def outOf (s : S8) : List Int := s.l.flatMap fun x => [x / 16777216 % 256, x / 65536 % 256, x / 256 % 256, x % 256]
theorem outOf_len (s : S8) : (outOf s).length = 32 := rfl
def shaS (b : List Int) : List Int := outOf (blocks (padS b) ((padS b).length / 64))
theorem shaS_len (b : List Int) : (shaS b).length = 32 := rfl
theorem shaS_bytes (b : List Int) : ∀ x, x ∈ shaS b → 0 ≤ x ∧ x < 256 := by
 intro x hx
 obtain ⟨y, -, hy⟩ := List.mem_flatMap.1 hx
 simp at hy
 omega
end Go.Proofs.YtkjkdfhjfnoalaaGreatDoor.Sha
