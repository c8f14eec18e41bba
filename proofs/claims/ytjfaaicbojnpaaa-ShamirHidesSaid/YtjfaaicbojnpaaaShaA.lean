/- shamir: bounds, numbers, arithmetic; the reference's likewise. -/
import Derived.Test.YtjfaaicbojnpaaaIter
import Derived.Test.YtjfaaicbojnpaaaRowI
import Derived.Test.YtjfaaicbojnpaaaPairZ
import Derived.LoopTactic
namespace Go.Proofs.Ytjfaaicbojnpaaa
open Go.RowKit Num
set_option linter.unusedSimpArgs false
set_option linter.unusedVariables false

/-- One to eight numbers, all below a limit. -/
def belowS (L : Int) (xs : List Int) : Bool := decide (1 ≤ xs.length) && decide (xs.length ≤ 8) && okAll L xs
def numS (Q i : Int) : Bool := decide (0 ≤ i) && decide (i ≤ 8) && decide (i < Q)

set_option maxHeartbeats 1000000 in
theorem stimes_ok {P Q G x y v : Int} (w : World) (hH : Has P Q G) (x0 : 0 ≤ x) (xQ : x < Q) (y0 : 0 ≤ y) (yQ : y < Q) (hv : x * y % Q = v) :
    Calls Try.prog 71 #[.agg #[.int .u64 P, .int .u64 Q, .int .u64 G], .int .u64 x, .int .u64 y] w fun e w' => e = .returned (.int .u64 v) ∧ Below w.heap.size w w' := by
  have HH := Lib.hid hH
  have HV := Lib.hid hv
  clear hH hv
  have F_g := Lib.hid (show Boxed (w.alloc (.cells #[.int .u64 P, .int .u64 Q, .int .u64 G] 24)) (w.heap.size) P Q G from Boxed.at _ P Q G _ (w.heap.size) (by simp))
  have HBW := Lib.hid (show Below w.heap.size w (w.alloc (.cells #[.int .u64 P, .int .u64 Q, .int .u64 G] 24)) from (Below.refl _ _).alloc (by simp <;> omega) _)
  go_enter Try.func71, Try.ntmps71
  obtain ⟨x0a, x0b, x0c, -⟩ := id F_g.out
  go_wp2_with fail
  clear x0a x0b x0c
  refine (mulExp_ok P Q G x y v _ HH.out x0 xQ y0 yQ HV.out).mono ?_
  rintro e w1 ⟨rfl, hb1⟩
  replace F_g := Lib.hid (F_g.out.keep hb1)
  replace HBW := Lib.hid (HBW.out.trans (hb1.mono HBW.out.size))
  clear hb1
  obtain ⟨x0a, x0b, x0c, -⟩ := id F_g.out
  go_wp2_with fail
  go_ret
  exact ⟨rfl, HBW.out⟩

set_option maxHeartbeats 1000000 in
theorem splus_ok {P Q G x y v : Int} (w : World) (hH : Has P Q G) (x0 : 0 ≤ x) (xQ : x < Q) (y0 : 0 ≤ y) (yQ : y < Q) (hv : (x + y) % Q = v) :
    Calls Try.prog 53 #[.agg #[.int .u64 P, .int .u64 Q, .int .u64 G], .int .u64 x, .int .u64 y] w fun e w' => e = .returned (.int .u64 v) ∧ Below w.heap.size w w' := by
  have HH := Lib.hid hH
  have HV := Lib.hid hv
  clear hH hv
  have F_g := Lib.hid (show Boxed (w.alloc (.cells #[.int .u64 P, .int .u64 Q, .int .u64 G] 24)) (w.heap.size) P Q G from Boxed.at _ P Q G _ (w.heap.size) (by simp))
  have HBW := Lib.hid (show Below w.heap.size w (w.alloc (.cells #[.int .u64 P, .int .u64 Q, .int .u64 G] 24)) from (Below.refl _ _).alloc (by simp <;> omega) _)
  go_enter Try.func53, Try.ntmps53
  obtain ⟨x0a, x0b, x0c, -⟩ := id F_g.out
  go_wp2_with fail
  clear x0a x0b x0c
  refine (addExp_ok P Q G x y v _ HH.out x0 xQ y0 yQ HV.out).mono ?_
  rintro e w1 ⟨rfl, hb1⟩
  replace F_g := Lib.hid (F_g.out.keep hb1)
  replace HBW := Lib.hid (HBW.out.trans (hb1.mono HBW.out.size))
  clear hb1
  obtain ⟨x0a, x0b, x0c, -⟩ := id F_g.out
  go_wp2_with fail
  go_ret
  exact ⟨rfl, HBW.out⟩

set_option maxHeartbeats 1000000 in
theorem sless_ok {P Q G x y v : Int} (w : World) (hH : Has P Q G) (x0 : 0 ≤ x) (xQ : x < Q) (y0 : 0 ≤ y) (yQ : y < Q) (hv : (x - y) % Q = v) :
    Calls Try.prog 70 #[.agg #[.int .u64 P, .int .u64 Q, .int .u64 G], .int .u64 x, .int .u64 y] w fun e w' => e = .returned (.int .u64 v) ∧ Below w.heap.size w w' := by
  have HH := Lib.hid hH
  have HV := Lib.hid hv
  clear hH hv
  have F_g := Lib.hid (show Boxed (w.alloc (.cells #[.int .u64 P, .int .u64 Q, .int .u64 G] 24)) (w.heap.size) P Q G from Boxed.at _ P Q G _ (w.heap.size) (by simp))
  have HBW := Lib.hid (show Below w.heap.size w (w.alloc (.cells #[.int .u64 P, .int .u64 Q, .int .u64 G] 24)) from (Below.refl _ _).alloc (by simp <;> omega) _)
  go_enter Try.func70, Try.ntmps70
  obtain ⟨x0a, x0b, x0c, -⟩ := id F_g.out
  go_wp2_with fail
  clear x0a x0b x0c
  refine (subExp_ok P Q G x y v _ HH.out x0 xQ y0 yQ HV.out).mono ?_
  rintro e w1 ⟨rfl, hb1⟩
  replace F_g := Lib.hid (F_g.out.keep hb1)
  replace HBW := Lib.hid (HBW.out.trans (hb1.mono HBW.out.size))
  clear hb1
  obtain ⟨x0a, x0b, x0c, -⟩ := id F_g.out
  go_wp2_with fail
  go_ret
  exact ⟨rfl, HBW.out⟩

set_option maxHeartbeats 2000000 in
theorem snumbered_any {P Q G i : Int} {v : Bool} (w : World) (il : -9223372036854775808 ≤ i) (iu : i ≤ 9223372036854775807) (hv : numS Q i = v) :
    Calls Try.prog 58 #[.agg #[.int .u64 P, .int .u64 Q, .int .u64 G], .int .i64 i] w fun e w' => e = .returned (.bool v) ∧ Below w.heap.size w w' := by
  by_cases h0 : 0 ≤ i
  case neg =>
    have HZ := Lib.hid (show false = v by rw [← hv]; simp [numS, h0])
    have d0 : decide (0 ≤ i) = false := by simpa using h0
    clear hv
    have F_g := Lib.hid (show Boxed (w.alloc (.cells #[.int .u64 P, .int .u64 Q, .int .u64 G] 24)) (w.heap.size) P Q G from Boxed.at _ P Q G _ (w.heap.size) (by simp))
    have HBW := Lib.hid (show Below w.heap.size w (w.alloc (.cells #[.int .u64 P, .int .u64 Q, .int .u64 G] 24)) from (Below.refl _ _).alloc (by simp <;> omega) _)
    go_enter Try.func58, Try.ntmps58
    obtain ⟨x0a, x0b, x0c, -⟩ := id F_g.out
    go_wp2_with fail
    go_ret
    exact ⟨ret_bool HZ.out, HBW.out⟩
  case pos =>
    have d0 : decide (0 ≤ i) = true := by simpa using h0
    by_cases h1 : i ≤ 8
    case neg =>
      have HZ := Lib.hid (show false = v by rw [← hv]; simp [numS, h1])
      have d1 : decide (i ≤ 8) = false := by simpa using h1
      clear hv
      have F_g := Lib.hid (show Boxed (w.alloc (.cells #[.int .u64 P, .int .u64 Q, .int .u64 G] 24)) (w.heap.size) P Q G from Boxed.at _ P Q G _ (w.heap.size) (by simp))
      have HBW := Lib.hid (show Below w.heap.size w (w.alloc (.cells #[.int .u64 P, .int .u64 Q, .int .u64 G] 24)) from (Below.refl _ _).alloc (by simp <;> omega) _)
      go_enter Try.func58, Try.ntmps58
      obtain ⟨x0a, x0b, x0c, -⟩ := id F_g.out
      go_wp2_with fail
      go_ret
      exact ⟨ret_bool HZ.out, HBW.out⟩
    case pos =>
      have d1 : decide (i ≤ 8) = true := by simpa using h1
      have hw : IntKind.u64.wrap i = i := wrap_u h0 (by omega)
      by_cases h2 : i < Q
      case neg =>
        have HZ := Lib.hid (show false = v by rw [← hv]; simp [numS, h2])
        have d2 : decide (i < Q) = false := by simpa using h2
        clear hv
        have F_g := Lib.hid (show Boxed (w.alloc (.cells #[.int .u64 P, .int .u64 Q, .int .u64 G] 24)) (w.heap.size) P Q G from Boxed.at _ P Q G _ (w.heap.size) (by simp))
        have HBW := Lib.hid (show Below w.heap.size w (w.alloc (.cells #[.int .u64 P, .int .u64 Q, .int .u64 G] 24)) from (Below.refl _ _).alloc (by simp <;> omega) _)
        go_enter Try.func58, Try.ntmps58
        obtain ⟨x0a, x0b, x0c, -⟩ := id F_g.out
        go_wp2_with fail
        go_ret
        exact ⟨ret_bool HZ.out, HBW.out⟩
      case pos =>
        have HZ := Lib.hid (show true = v by rw [← hv]; simp [numS, h0, h1, h2])
        have d2 : decide (i < Q) = true := by simpa using h2
        clear hv
        have F_g := Lib.hid (show Boxed (w.alloc (.cells #[.int .u64 P, .int .u64 Q, .int .u64 G] 24)) (w.heap.size) P Q G from Boxed.at _ P Q G _ (w.heap.size) (by simp))
        have HBW := Lib.hid (show Below w.heap.size w (w.alloc (.cells #[.int .u64 P, .int .u64 Q, .int .u64 G] 24)) from (Below.refl _ _).alloc (by simp <;> omega) _)
        go_enter Try.func58, Try.ntmps58
        obtain ⟨x0a, x0b, x0c, -⟩ := id F_g.out
        go_wp2_with fail
        go_ret
        exact ⟨ret_bool HZ.out, HBW.out⟩

set_option maxHeartbeats 2000000 in
theorem rnumbered_any {P Q G i : Int} {v : Bool} (w : World) (il : -9223372036854775808 ≤ i) (iu : i ≤ 9223372036854775807) (hv : numS Q i = v) :
    Calls Try.prog 61 #[.agg #[.int .u64 P, .int .u64 Q, .int .u64 G], .int .i64 i] w fun e w' => e = .returned (.bool v) ∧ Below w.heap.size w w' := by
  by_cases h0 : 0 ≤ i
  case neg =>
    have HZ := Lib.hid (show false = v by rw [← hv]; simp [numS, h0])
    have d0 : decide (0 ≤ i) = false := by simpa using h0
    clear hv
    have F_g := Lib.hid (show Boxed (w.alloc (.cells #[.int .u64 P, .int .u64 Q, .int .u64 G] 24)) (w.heap.size) P Q G from Boxed.at _ P Q G _ (w.heap.size) (by simp))
    have HBW := Lib.hid (show Below w.heap.size w (w.alloc (.cells #[.int .u64 P, .int .u64 Q, .int .u64 G] 24)) from (Below.refl _ _).alloc (by simp <;> omega) _)
    go_enter Try.func61, Try.ntmps61
    obtain ⟨x0a, x0b, x0c, -⟩ := id F_g.out
    go_wp2_with fail
    go_ret
    exact ⟨ret_bool HZ.out, HBW.out⟩
  case pos =>
    have d0 : decide (0 ≤ i) = true := by simpa using h0
    by_cases h1 : i ≤ 8
    case neg =>
      have HZ := Lib.hid (show false = v by rw [← hv]; simp [numS, h1])
      have d1 : decide (i ≤ 8) = false := by simpa using h1
      clear hv
      have F_g := Lib.hid (show Boxed (w.alloc (.cells #[.int .u64 P, .int .u64 Q, .int .u64 G] 24)) (w.heap.size) P Q G from Boxed.at _ P Q G _ (w.heap.size) (by simp))
      have HBW := Lib.hid (show Below w.heap.size w (w.alloc (.cells #[.int .u64 P, .int .u64 Q, .int .u64 G] 24)) from (Below.refl _ _).alloc (by simp <;> omega) _)
      go_enter Try.func61, Try.ntmps61
      obtain ⟨x0a, x0b, x0c, -⟩ := id F_g.out
      go_wp2_with fail
      go_ret
      exact ⟨ret_bool HZ.out, HBW.out⟩
    case pos =>
      have d1 : decide (i ≤ 8) = true := by simpa using h1
      have hw : IntKind.u64.wrap i = i := wrap_u h0 (by omega)
      by_cases h2 : i < Q
      case neg =>
        have HZ := Lib.hid (show false = v by rw [← hv]; simp [numS, h2])
        have d2 : decide (i < Q) = false := by simpa using h2
        clear hv
        have F_g := Lib.hid (show Boxed (w.alloc (.cells #[.int .u64 P, .int .u64 Q, .int .u64 G] 24)) (w.heap.size) P Q G from Boxed.at _ P Q G _ (w.heap.size) (by simp))
        have HBW := Lib.hid (show Below w.heap.size w (w.alloc (.cells #[.int .u64 P, .int .u64 Q, .int .u64 G] 24)) from (Below.refl _ _).alloc (by simp <;> omega) _)
        go_enter Try.func61, Try.ntmps61
        obtain ⟨x0a, x0b, x0c, -⟩ := id F_g.out
        go_wp2_with fail
        go_ret
        exact ⟨ret_bool HZ.out, HBW.out⟩
      case pos =>
        have HZ := Lib.hid (show true = v by rw [← hv]; simp [numS, h0, h1, h2])
        have d2 : decide (i < Q) = true := by simpa using h2
        clear hv
        have F_g := Lib.hid (show Boxed (w.alloc (.cells #[.int .u64 P, .int .u64 Q, .int .u64 G] 24)) (w.heap.size) P Q G from Boxed.at _ P Q G _ (w.heap.size) (by simp))
        have HBW := Lib.hid (show Below w.heap.size w (w.alloc (.cells #[.int .u64 P, .int .u64 Q, .int .u64 G] 24)) from (Below.refl _ _).alloc (by simp <;> omega) _)
        go_enter Try.func61, Try.ntmps61
        obtain ⟨x0a, x0b, x0c, -⟩ := id F_g.out
        go_wp2_with fail
        go_ret
        exact ⟨ret_bool HZ.out, HBW.out⟩

set_option maxRecDepth 100000 in
set_option maxHeartbeats 4000000 in
theorem sbelow_any {L : Int} {a : Option Addr} {n c : Nat} {xs : List Int} {v : Bool} (w : World) (h : ShI .u64 w a n xs) (hv : belowS L xs = v) :
    Calls Try.prog 57 #[.slice a n c, .int .u64 L] w fun e w' => e = .returned (.bool v) ∧ Below w.heap.size w w' := by
  have hmf : ∀ (fn : Fn) (first cap : Array Value) (w : World), (Instr.makeFunc fn first cap).run Try.prog w = .ok (.func fn first cap) w := fun _ _ _ _ => rfl
  have hl := Lib.hid h.len
  have HS := Lib.hid h
  by_cases h1 : 1 ≤ n
  case neg =>
    have HZ := Lib.hid (show false = v by rw [← hv]; have := hl.out; simp [belowS]; omega)
    have d1 : decide ((n : Int) < 1) = true := by simp; omega
    clear hv h
    go_enter Try.func57, Try.ntmps57
    go_wp2_with fail
    go_ret
    exact ⟨ret_bool HZ.out, (Below.refl _ _).alloc (Nat.le_refl _) _⟩
  case pos =>
    have d1 : decide ((n : Int) < 1) = false := by simp; omega
    by_cases h8 : n ≤ 8
    case neg =>
      have HZ := Lib.hid (show false = v by rw [← hv]; have := hl.out; simp [belowS]; omega)
      have d2 : decide ((8 : Int) < (n : Int)) = true := by simp; omega
      clear hv h
      go_enter Try.func57, Try.ntmps57
      go_wp2_with fail
      go_ret
      exact ⟨ret_bool HZ.out, (Below.refl _ _).alloc (Nat.le_refl _) _⟩
    case pos =>
      have d2 : decide ((8 : Int) < (n : Int)) = false := by simp; omega
      have HZ := Lib.hid (show okAll L xs = v by rw [← hv]; have h := hl.out; simp [belowS, ← h, h1, h8])
      rcases h with ⟨h0, -⟩ | ⟨s, o, rfl, hn, hs, hc⟩
      · omega
      · subst hn
        have HC := Lib.hid hc
        clear hv hc
        have hB0 : Below w.heap.size w ((w.alloc (.cells #[.int .u64 L] 22)).alloc (.cells #[.slice (some ⟨s, o, none⟩) xs.length c] 25)) := ((Below.refl _ w).alloc (Nat.le_refl _) _).alloc (by simp) _
        go_enter Try.func57, Try.ntmps57
        go_wp2_with (go_at_call 85; refine (callsIn_wide.1 (vals_in Fence.wide 1 trivial rfl (some ⟨s, o, none⟩) xs.length c _)).mono ?_; rintro e w1 ⟨rfl, rfl⟩)
        refine (sfold_any (L := L) (zs := xs) _ (w.heap.size + 1) w.heap.size s o c (by simp) (by simp; omega) (by simp; omega) (by omega) (by rw [World.cell?_alloc_at _ _ _ _ (by simp)]; rfl) (by rw [World.cell?_alloc_past _ _ _ (by simp), World.cell?_alloc_new]; rfl) (fun j hj => by
          rw [hB0.cell (p := ⟨s, o + j, none⟩) hs, ← List.getD_eq_getElem?_getD]; exact HC.out j hj)).mono ?_
        rintro e w2 ⟨rfl, hb2⟩
        go_wp2_with fail
        go_ret
        exact ⟨ret_bool HZ.out, hB0.trans (hb2.mono hB0.size)⟩
end Go.Proofs.Ytjfaaicbojnpaaa
