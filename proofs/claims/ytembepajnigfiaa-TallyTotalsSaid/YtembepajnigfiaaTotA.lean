/- Ciphertexts in range: both sides; votes that are larger than the statements consider. -/
import Derived.Test.YtembepajnigfiaaVt
import Derived.Test.YtembepajnigfiaaSumR
import Derived.Test.YtembepajnigfiaaAsk
namespace Go.Proofs.Ytembepajnigfiaa
open Go.RowKit Num
set_option linter.unusedSimpArgs false
set_option linter.unusedVariables false


set_option maxHeartbeats 2000000 in
theorem tr1_any {P Q G x y : Int} {bg : Nat} (w : World) (hg : Boxed w bg P Q G) :
    Calls Try.prog 16 #[.agg #[.int .u64 x, .int .u64 y], .pointer (some ⟨bg, 0, none⟩)] w fun e w' => e = .returned (.bool (decide (P ≤ x) || decide (P ≤ y))) ∧ Below w.heap.size w w' := by
  have F_g := Lib.hid (show Boxed (w.alloc (.cells #[.int .u64 x, .int .u64 y] 45)) bg P Q G from hg.alloc _)
  have F_s := Lib.hid (show Pair (w.alloc (.cells #[.int .u64 x, .int .u64 y] 45)) w.heap.size x y from Pair.at _ x y _ w.heap.size rfl)
  clear hg
  have HBW := Lib.hid (show Below w.heap.size w (w.alloc (.cells #[.int .u64 x, .int .u64 y] 45)) from (Below.refl _ _).alloc (Nat.le_refl _) _)
  obtain ⟨x0a, x0b, x0c, -⟩ := id F_g.out
  obtain ⟨x1a, x1b, x1c, x1d, -⟩ := id F_s.out
  by_cases h : P ≤ x
  case pos =>
    have d1 : decide (P ≤ x) = true := by simpa using h
    go_enter Try.func16, Try.ntmps16
    go_wp2_with fail
    go_ret
    exact ⟨by simp [h], HBW.out⟩
  case neg =>
    have d1 : decide (P ≤ x) = false := by simpa using h
    go_enter Try.func16, Try.ntmps16
    go_wp2_with fail
    go_ret
    exact ⟨by simp [h], HBW.out⟩

set_option maxRecDepth 100000 in
set_option maxHeartbeats 4000000 in
theorem trIndex_any {P Q G : Int} {bg : Nat} {a : Option Addr} {n c : Nat} {ps : List (Int × Int)} (w : World) (hg : Boxed w bg P Q G) (hS : ShS w a n ps) (hn : n ≤ 1000000) :
    Calls Try.prog 24 #[.slice a n c, .func (.func 16) #[] #[.pointer (some ⟨bg, 0, none⟩)]] w fun e w' => ∃ r : Int, e = .returned (.int .i64 r) ∧ decide (0 ≤ r) = !(okS P ps) ∧ Below w.heap.size w w' := by
  have HG := Lib.hid hg
  have HS := Lib.hid hS
  have HL := Lib.hid hS.len
  clear hg hS
  have c26 : Try.prog.cellsOf 45 = 2 := by kernel_rfl
  have HBW := Lib.hid (Below.refl w.heap.size w)
  go_enter Try.func24, Try.ntmps24
  go_wp2_with fail
  go_loopw [5, 8] (fun c5 c8 wr => ∃ i : Nat, i ≤ n ∧ c8 = .int .i64 i ∧ Hid (∀ j, j < i → okS P [ps.getD j (0, 0)] = true) ∧ Hid (Below w.heap.size w wr)) (fun _ c8 _ => n - (intOf c8).toNat)
  case atStart => exact ⟨0, Nat.zero_le _, rfl, (fun j hj => by omega), HBW.out⟩
  case round =>
    clear HBW
    obtain ⟨i, hi, rfl, HA, HBW⟩ := hrel
    by_cases hlt : i < n
    case neg =>
      have HZ := Lib.hid (show okS P ps = true by
        rw [okS, List.all_eq_true]
        intro p hp
        obtain ⟨j, hj, rfl⟩ := List.mem_iff_getElem.1 hp
        have := HA.out j (by have := HL.out; omega)
        rw [List.getD_eq_getElem?_getD, List.getElem?_eq_getElem hj] at this
        simpa [okS] using this)
      go_wp2_with fail
      go_ret
      exact ⟨_, rfl, by rw [HZ.out]; rfl, HBW.out⟩
    case pos =>
      have hi0 : (0 : Int) ≤ (i : Int) := by omega
      have hi1 : (i : Int) < (n : Int) := by omega
      have hwi : IntKind.i64.wrap ((i : Int) + 1) = (i : Int) + 1 := IntWalk.i64_in _ (by omega)
      obtain ⟨s, o, hsa, hsl, hc0, hc1⟩ := (HS.out.keep HBW.out).at i hlt
      obtain ⟨x, y, hxy⟩ : ∃ x y, ps.getD i (0, 0) = (x, y) := ⟨_, _, rfl⟩
      rw [hxy] at hc0 hc1
      have HXY := Lib.hid hxy
      subst hsa
      clear hxy
      go_wp2_with fail
      clear hc0 hc1
      refine (tr1_any _ (HG.out.keep HBW.out)).mono ?_
      rintro e w1 ⟨rfl, hb1⟩
      replace HBW := Lib.hid (HBW.out.trans (hb1.mono HBW.out.size))
      clear hb1 hsl
      cases hv : (decide (P ≤ x) || decide (P ≤ y)) with
      | true =>
        have HZ := Lib.hid (show okS P ps = false by
          rw [okS, List.all_eq_false]
          refine ⟨(x, y), mem_getD (by have := HL.out; omega) HXY.out, ?_⟩
          simp at hv ⊢
          rcases hv with h | h <;> omega)
        clear hv
        go_wp2_with fail
        go_ret
        exact ⟨_, rfl, by rw [HZ.out]; simp, HBW.out⟩
      | false =>
        have HA2 := Lib.hid (show ∀ j, j < i + 1 → okS P [ps.getD j (0, 0)] = true from fun j hj => by
          by_cases e : j < i
          · exact HA.out j e
          · obtain rfl : j = i := by omega
            rw [HXY.out]
            simp at hv
            simp [okS]
            omega)
        clear hv
        go_wp2_with fail
        go_roundw
        case rel => exact ⟨i + 1, by omega, by go_num, HA2.out, HBW.out⟩
        case measure => simp [intOf] <;> omega

set_option maxHeartbeats 2000000 in
theorem trContains_any {P Q G : Int} {bg : Nat} {a : Option Addr} {n c : Nat} {ps : List (Int × Int)} (w : World) (hg : Boxed w bg P Q G) (hS : ShS w a n ps) (hn : n ≤ 1000000) :
    Calls Try.prog 17 #[.slice a n c, .func (.func 16) #[] #[.pointer (some ⟨bg, 0, none⟩)]] w fun e w' => e = .returned (.bool (!(okS P ps))) ∧ Below w.heap.size w w' := by
  have HG := Lib.hid hg
  have HS := Lib.hid hS
  clear hg hS
  go_enter Try.func17, Try.ntmps17
  go_wp2_with fail
  refine (trIndex_any _ HG.out HS.out hn).mono ?_
  rintro e w1 ⟨r, rfl, hr, hb1⟩
  have HB := Lib.hid hb1
  have HZ := Lib.hid hr
  clear hb1 hr
  go_wp2_with fail
  go_ret
  exact ⟨by rw [← HZ.out]; rfl, HB.out⟩

set_option maxHeartbeats 2000000 in
theorem tranged_any {P Q G : Int} {a : Option Addr} {n c : Nat} {ps : List (Int × Int)} (w : World) (hS : ShS w a n ps) (hn : n ≤ 1000000) :
    Calls Try.prog 10 #[.agg #[.int .u64 P, .int .u64 Q, .int .u64 G], .slice a n c] w fun e w' => e = .returned (.bool (okS P ps)) ∧ Below w.heap.size w w' := by
  have HS := Lib.hid (hS.alloc (.cells #[.int .u64 P, .int .u64 Q, .int .u64 G] 24))
  have HG := Lib.hid (Boxed.new w P Q G 24)
  have HBW := Lib.hid (show Below w.heap.size w (w.alloc (.cells #[.int .u64 P, .int .u64 Q, .int .u64 G] 24)) from (Below.refl _ _).alloc (Nat.le_refl _) _)
  clear hS
  go_enter Try.func10, Try.ntmps10
  go_wp2_with fail
  refine (trContains_any _ HG.out HS.out hn).mono ?_
  rintro e w1 ⟨rfl, hb1⟩
  replace HBW := Lib.hid (HBW.out.trans (hb1.mono HBW.out.size))
  clear hb1
  go_wp2_with fail
  go_ret
  exact ⟨by simp, HBW.out⟩

set_option maxRecDepth 100000 in
set_option maxHeartbeats 4000000 in
theorem rranged_any {P Q G : Int} {a : Option Addr} {n c : Nat} {ps : List (Int × Int)} (w : World) (hS : ShS w a n ps) (hn : n ≤ 1000000) :
    Calls Try.prog 14 #[.agg #[.int .u64 P, .int .u64 Q, .int .u64 G], .slice a n c] w fun e w' => e = .returned (.bool (okS P ps)) ∧ Below w.heap.size w w' := by
  have HS := Lib.hid hS
  have HL := Lib.hid hS.len
  have HG := Lib.hid (Boxed.new w P Q G 24)
  have HBW := Lib.hid (show Below w.heap.size w (w.alloc (.cells #[.int .u64 P, .int .u64 Q, .int .u64 G] 24)) from (Below.refl _ _).alloc (Nat.le_refl _) _)
  clear hS
  have c26 : Try.prog.cellsOf 45 = 2 := by kernel_rfl
  go_enter Try.func14, Try.ntmps14
  go_wp2_with fail
  go_loopw [5] (fun c5 wr => ∃ i : Nat, i ≤ n ∧ c5 = .int .i64 i ∧ Hid (∀ j, j < i → okS P [ps.getD j (0, 0)] = true) ∧ Hid (Boxed wr w.heap.size P Q G) ∧ Hid (Below w.heap.size w wr)) (fun c5 _ => n - (intOf c5).toNat)
  case atStart => exact ⟨0, Nat.zero_le _, rfl, (fun j hj => by omega), HG.out, HBW.out⟩
  case round =>
    clear HBW HG
    obtain ⟨i, hi, rfl, HA, HG, HBW⟩ := hrel
    obtain ⟨x0a, x0b, x0c, -⟩ := id HG.out
    by_cases hlt : i < n
    case neg =>
      have HZ := Lib.hid (show okS P ps = true by
        rw [okS, List.all_eq_true]
        intro p hp
        obtain ⟨j, hj, rfl⟩ := List.mem_iff_getElem.1 hp
        have := HA.out j (by have := HL.out; omega)
        rw [List.getD_eq_getElem?_getD, List.getElem?_eq_getElem hj] at this
        simpa [okS] using this)
      go_wp2_with fail
      go_ret
      exact ⟨by rw [HZ.out]; rfl, HBW.out⟩
    case pos =>
      have hi0 : (0 : Int) ≤ (i : Int) := by omega
      have hi1 : (i : Int) < (n : Int) := by omega
      have hwi : IntKind.i64.wrap ((i : Int) + 1) = (i : Int) + 1 := IntWalk.i64_in _ (by omega)
      obtain ⟨s, o, hsa, hsl, hc0, hc1⟩ := (HS.out.keep HBW.out).at i hlt
      obtain ⟨x, y, hxy⟩ : ∃ x y, ps.getD i (0, 0) = (x, y) := ⟨_, _, rfl⟩
      rw [hxy] at hc0 hc1
      have HXY := Lib.hid hxy
      subst hsa
      clear hxy
      by_cases h1 : P ≤ x
      case pos =>
        have d1 : decide (P ≤ x) = true := by simpa using h1
        have HZ := Lib.hid (show okS P ps = false by
          rw [okS, List.all_eq_false]
          exact ⟨(x, y), mem_getD (by have := HL.out; omega) HXY.out, by simp; omega⟩)
        go_wp2_with fail
        go_region
        go_wp2_with fail
        go_ret
        exact ⟨by rw [HZ.out]; rfl, HBW.out.drew⟩
      case neg =>
        have d1 : decide (P ≤ x) = false := by simpa using h1
        by_cases h2 : P ≤ y
        case pos =>
          have d2 : decide (P ≤ y) = true := by simpa using h2
          have HZ := Lib.hid (show okS P ps = false by
            rw [okS, List.all_eq_false]
            exact ⟨(x, y), mem_getD (by have := HL.out; omega) HXY.out, by simp; omega⟩)
          go_wp2_with fail
          go_region
          go_wp2_with fail
          go_ret
          exact ⟨by rw [HZ.out]; rfl, HBW.out.drew⟩
        case neg =>
          have d2 : decide (P ≤ y) = false := by simpa using h2
          have HA2 := Lib.hid (show ∀ j, j < i + 1 → okS P [ps.getD j (0, 0)] = true from fun j hj => by
            by_cases e : j < i
            · exact HA.out j e
            · obtain rfl : j = i := by omega
              rw [HXY.out]
              simp [okS]
              omega)
          go_wp2_with fail
          go_region
          go_wp2_with fail
          go_roundw
          case rel => exact ⟨i + 1, by omega, by go_num, HA2.out, HG.out.drew, HBW.out.drew⟩
          case measure => simp [intOf] <;> omega

/-- Larger than the statements consider. -/
def greatV (V : Vt) : Bool := decide (20 < V.n) || decide (20 < V.m)
/-- A vote in a box. -/
structure VBox (w : World) (B : Nat) (V : Vt) : Prop where
  lt : B < w.heap.size
  c0 : w.cell? ⟨B, 0, none⟩ = some (.slice V.a V.n V.c)
  c1 : w.cell? ⟨B, 1, none⟩ = some (.slice V.b V.m V.d)
  c2 : w.cell? ⟨B, 2, none⟩ = some (.bool V.one)
  c3 : w.cell? ⟨B, 3, none⟩ = some (.int .u64 V.z.r0)
  c4 : w.cell? ⟨B, 4, none⟩ = some (.int .u64 V.z.r1)
  c5 : w.cell? ⟨B, 5, none⟩ = some (.int .u64 V.z.s0)
  c6 : w.cell? ⟨B, 6, none⟩ = some (.int .u64 V.z.s1)
  c7 : w.cell? ⟨B, 7, none⟩ = some (.int .u64 V.z.c0)
  c8 : w.cell? ⟨B, 8, none⟩ = some (.int .u64 V.z.c1)
  c9 : w.cell? ⟨B, 9, none⟩ = some (.int .u64 V.z.z0)
  c10 : w.cell? ⟨B, 10, none⟩ = some (.int .u64 V.z.z1)
  f0 : ∀ o, w.frozen? ⟨B, o, none⟩ = false
theorem VBox.at (w : World) (V : Vt) (t : TypeId) (B : Nat) (hB : B = w.heap.size) : VBox (w.alloc (.cells #[.slice V.a V.n V.c, .slice V.b V.m V.d, .bool V.one, .int .u64 V.z.r0, .int .u64 V.z.r1, .int .u64 V.z.s0, .int .u64 V.z.s1, .int .u64 V.z.c0, .int .u64 V.z.c1, .int .u64 V.z.z0, .int .u64 V.z.z1] t)) B V := by
  subst hB
  refine ⟨by simp, ?_, ?_, ?_, ?_, ?_, ?_, ?_, ?_, ?_, ?_, ?_, fun o => ?_⟩
  all_goals first | (rw [World.cell?_alloc_new]; rfl) | (unfold World.frozen?; rw [heap_alloc_new]; simp)
theorem VBox.keep {w w' : World} {B : Nat} {V : Vt} (h : VBox w B V) (hb : Below w.heap.size w w') : VBox w' B V :=
  ⟨Nat.lt_of_lt_of_le h.lt hb.size, (hb.cell (p := ⟨B, 0, none⟩) h.lt).trans h.c0, (hb.cell (p := ⟨B, 1, none⟩) h.lt).trans h.c1, (hb.cell (p := ⟨B, 2, none⟩) h.lt).trans h.c2, (hb.cell (p := ⟨B, 3, none⟩) h.lt).trans h.c3, (hb.cell (p := ⟨B, 4, none⟩) h.lt).trans h.c4, (hb.cell (p := ⟨B, 5, none⟩) h.lt).trans h.c5, (hb.cell (p := ⟨B, 6, none⟩) h.lt).trans h.c6, (hb.cell (p := ⟨B, 7, none⟩) h.lt).trans h.c7, (hb.cell (p := ⟨B, 8, none⟩) h.lt).trans h.c8, (hb.cell (p := ⟨B, 9, none⟩) h.lt).trans h.c9, (hb.cell (p := ⟨B, 10, none⟩) h.lt).trans h.c10, fun o => (hb.frozen (p := ⟨B, o, none⟩) h.lt).trans (h.f0 o)⟩
theorem VBox.alloc {w : World} {B : Nat} {V : Vt} (h : VBox w B V) (x : Obj) : VBox (w.alloc x) B V := h.keep ((Below.refl _ _).alloc (Nat.le_refl _) x)
theorem VBox.drew {w : World} {B : Nat} {V : Vt} (h : VBox w B V) : VBox w.drew B V := h.keep (Below.refl _ _).drew
set_option maxHeartbeats 2000000 in
theorem greatV_any {V : Vt} (w : World) :
    Calls Try.prog 4 #[V.v] w fun e w' => e = .returned (.bool (greatV V)) ∧ Below w.heap.size w w' := by
  have F_v := Lib.hid (VBox.at w V 33 w.heap.size rfl)
  have HBW := Lib.hid (show Below w.heap.size w (w.alloc (.cells #[.slice V.a V.n V.c, .slice V.b V.m V.d, .bool V.one, .int .u64 V.z.r0, .int .u64 V.z.r1, .int .u64 V.z.s0, .int .u64 V.z.s1, .int .u64 V.z.c0, .int .u64 V.z.c1, .int .u64 V.z.z0, .int .u64 V.z.z1] 33)) from (Below.refl _ _).alloc (Nat.le_refl _) _)
  obtain ⟨-, v0, v1, -⟩ := id F_v.out
  unfold Vt.v
  by_cases h : 20 < V.n
  case pos =>
    have d1 : decide ((20 : Int) < (V.n : Int)) = true := by simp; omega
    go_enter Try.func4, Try.ntmps4
    go_wp2_with fail
    go_ret
    exact ⟨by simp [greatV, h], HBW.out⟩
  case neg =>
    have d1 : decide ((20 : Int) < (V.n : Int)) = false := by simp; omega
    go_enter Try.func4, Try.ntmps4
    go_wp2_with fail
    go_ret
    exact ⟨by simp [greatV, h, show ((20 : Int) < (V.m : Int)) ↔ 20 < V.m by omega], HBW.out⟩
end Go.Proofs.Ytembepajnigfiaa
