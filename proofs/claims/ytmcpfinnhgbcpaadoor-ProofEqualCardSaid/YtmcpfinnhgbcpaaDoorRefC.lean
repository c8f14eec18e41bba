/- The reference functions of chapter 30 that begin with asked. -/
import Derived.Test.YtmcpfinnhgbcpaaDoorRefB
import Derived.Test.YtmcpfinnhgbcpaaDoorGen
namespace Go.Proofs.YtmcpfinnhgbcpaaDoor
open Go.RowKit Num

theorem checkS_padP (P Q G a : Int) : checkS P Q G P [a, 0] = checkS P Q G P [a] := by
  by_cases h : Has P Q G
  · have : 0 < P := by have := h.1; omega
    unfold checkS okAll; simp [this]
  · unfold checkS; simp [h]
theorem checkS_padQ (P Q G a : Int) : checkS P Q G Q [a, 0] = checkS P Q G Q [a] := by
  by_cases h : Has P Q G
  · have : 0 < Q := by have := h.1; have := h.2.2.2.1; omega
    unfold checkS okAll; simp [this]
  · unfold checkS; simp [h]
theorem checkS_has {P Q G L : Int} (h : Has P Q G) : checkS P Q G L [] = 0 := by rw [checkS, if_pos h]; simp [okAll]
theorem checkS_not {P Q G L : Int} {xs : List Int} (h : ¬ Has P Q G) : checkS P Q G L xs = 300 := by rw [checkS, if_neg h]






set_option maxHeartbeats 800000 in
theorem rIn_gen {P Q G a : Int} {r : Bool} (hQ : 0 ≤ Q) (w : World) (hH : Has P Q G) (a0 : 0 ≤ a) (aP : a < P) (hr : r = true ↔ Mem P Q a) :
    Calls Tryd.prog 84 #[.agg #[.int .u64 P, .int .u64 Q, .int .u64 G], .int .u64 a] w fun e w' => e = .returned (.bool r) ∧ Below w.heap.size w w' := by
  obtain ⟨p5, p3, hQ', pq, g2, gP⟩ := id hH
  have HX := Lib.hid (U64.of_lt hQ (by omega))
  have HM := Lib.hid hr
  clear hr pq hH
  by_cases h0 : 0 < a
  · have HZ := Lib.hid (show (powm a Q P == 1) = r by rw [Bool.eq_iff_iff, HM.out]; simp [Mem, h0, aP])
    go_enter Tryd.func84, Tryd.ntmps84
    go_wp2_with fail
    refine (rPower_any P a Q _ _ (by omega) p3 a0 (by omega) HX.out rfl).mono ?_
    rintro e w2 ⟨rfl, rfl⟩
    go_wp2_with fail
    go_ret
    exact ⟨ret_bool HZ.out, (Below.refl _ _).alloc (Nat.le_refl _) _⟩
  · have HZ := Lib.hid (show false = r by rw [Bool.eq_iff_iff, HM.out]; simp [Mem, h0])
    go_enter Tryd.func84, Tryd.ntmps84
    go_wp2_with fail
    go_ret
    exact ⟨ret_bool HZ.out, (Below.refl _ _).alloc (Nat.le_refl _) _⟩
set_option maxHeartbeats 800000 in
theorem rSum_gen {P Q G x y v : Int} (w : World) (hH : Has P Q G) (x0 : 0 ≤ x) (xQ : x < Q) (y0 : 0 ≤ y) (yQ : y < Q) (hv : (x + y) % Q = v) :
    Calls Tryd.prog 78 #[.agg #[.int .u64 P, .int .u64 Q, .int .u64 G], .int .u64 x, .int .u64 y] w fun e w' => e = .returned (.int .u64 v) ∧ Below w.heap.size w w' := by
  obtain ⟨p5, p3, hQ', pq, g2, gP⟩ := id hH
  have q3 : Q < 1073741824 := by omega
  have HV := Lib.hid hv
  clear hv pq hH
  go_enter Tryd.func78, Tryd.ntmps78
  go_wp2_with fail
  go_ret
  exact ⟨ret_int HV.out, (Below.refl _ _).alloc (Nat.le_refl _) _⟩
set_option maxHeartbeats 800000 in
theorem rDiff_gen {P Q G x y v : Int} (w : World) (hH : Has P Q G) (x0 : 0 ≤ x) (xQ : x < Q) (y0 : 0 ≤ y) (yQ : y < Q) (hv : (x - y) % Q = v) :
    Calls Tryd.prog 77 #[.agg #[.int .u64 P, .int .u64 Q, .int .u64 G], .int .u64 x, .int .u64 y] w fun e w' => e = .returned (.int .u64 v) ∧ Below w.heap.size w w' := by
  obtain ⟨p5, p3, hQ', pq, g2, gP⟩ := id hH
  have q3 : Q < 1073741824 := by omega
  have HV := Lib.hid (show (x + Q - y) % Q = v by rw [show x + Q - y = x - y + Q by omega, Int.add_emod_right]; exact hv)
  clear hv pq hH
  go_enter Tryd.func77, Tryd.ntmps77
  go_wp2_with fail
  go_ret
  exact ⟨ret_int HV.out, (Below.refl _ _).alloc (Nat.le_refl _) _⟩
set_option maxHeartbeats 800000 in
theorem rProduct_gen {P Q G x y v : Int} (w : World) (hH : Has P Q G) (x0 : 0 ≤ x) (xQ : x < Q) (y0 : 0 ≤ y) (yQ : y < Q) (hv : x * y % Q = v) :
    Calls Tryd.prog 83 #[.agg #[.int .u64 P, .int .u64 Q, .int .u64 G], .int .u64 x, .int .u64 y] w fun e w' => e = .returned (.int .u64 v) ∧ Below w.heap.size w w' := by
  obtain ⟨p5, p3, hQ', pq, g2, gP⟩ := id hH
  have q3 : Q < 1073741824 := by omega
  obtain ⟨m1, m2⟩ := mul_bound x0 (by omega) y0 (by omega)
  have HV := Lib.hid hv
  clear hv pq hH
  go_enter Tryd.func83, Tryd.ntmps83
  go_wp2_with fail
  go_ret
  exact ⟨ret_int HV.out, (Below.refl _ _).alloc (Nat.le_refl _) _⟩





end Go.Proofs.YtmcpfinnhgbcpaaDoor
