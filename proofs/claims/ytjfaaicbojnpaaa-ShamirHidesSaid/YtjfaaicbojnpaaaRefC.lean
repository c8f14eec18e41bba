/- The reference functions of chapter 30 that begin with asked. -/
import Derived.Test.YtjfaaicbojnpaaaRefB
import Derived.Test.YtjfaaicbojnpaaaGen
namespace Go.Proofs.Ytjfaaicbojnpaaa
open Go.RowKit Num

theorem checkS_padP (P Q G a : Int) : checkS P Q G P [a, 0] = checkS P Q G P [a] := by
  by_cases h : Has P Q G
  · have : 0 < P := by have := h.1; omega
    unfold checkS okAll; simp [this]
  · unfold checkS; simp [h]
theorem checkS_padQ (P Q G a : Int) : checkS P Q G Q [a, 0] = checkS P Q G Q [a] := by
  by_cases h : Has P Q G
  · have : 0 < Q := by have := h.1; have := h.2.2.2.1; omega
    unfold checkS okAll; simp [this]
  · unfold checkS; simp [h]
theorem checkS_has {P Q G L : Int} (h : Has P Q G) : checkS P Q G L [] = 0 := by rw [checkS, if_pos h]; simp [okAll]
theorem checkS_not {P Q G L : Int} {xs : List Int} (h : ¬ Has P Q G) : checkS P Q G L xs = 300 := by rw [checkS, if_neg h]






set_option maxHeartbeats 800000 in
theorem rSum_gen {P Q G x y v : Int} (w : World) (hH : Has P Q G) (x0 : 0 ≤ x) (xQ : x < Q) (y0 : 0 ≤ y) (yQ : y < Q) (hv : (x + y) % Q = v) :
    Calls Try.prog 56 #[.agg #[.int .u64 P, .int .u64 Q, .int .u64 G], .int .u64 x, .int .u64 y] w fun e w' => e = .returned (.int .u64 v) ∧ Below w.heap.size w w' := by
  obtain ⟨p5, p3, hQ', pq, g2, gP⟩ := id hH
  have q3 : Q < 1073741824 := by omega
  have HV := Lib.hid hv
  clear hv pq hH
  go_enter Try.func56, Try.ntmps56
  go_wp2_with fail
  go_ret
  exact ⟨ret_int HV.out, (Below.refl _ _).alloc (Nat.le_refl _) _⟩
set_option maxHeartbeats 800000 in
theorem rDiff_gen {P Q G x y v : Int} (w : World) (hH : Has P Q G) (x0 : 0 ≤ x) (xQ : x < Q) (y0 : 0 ≤ y) (yQ : y < Q) (hv : (x - y) % Q = v) :
    Calls Try.prog 94 #[.agg #[.int .u64 P, .int .u64 Q, .int .u64 G], .int .u64 x, .int .u64 y] w fun e w' => e = .returned (.int .u64 v) ∧ Below w.heap.size w w' := by
  obtain ⟨p5, p3, hQ', pq, g2, gP⟩ := id hH
  have q3 : Q < 1073741824 := by omega
  have HV := Lib.hid (show (x + Q - y) % Q = v by rw [show x + Q - y = x - y + Q by omega, Int.add_emod_right]; exact hv)
  clear hv pq hH
  go_enter Try.func94, Try.ntmps94
  go_wp2_with fail
  go_ret
  exact ⟨ret_int HV.out, (Below.refl _ _).alloc (Nat.le_refl _) _⟩
set_option maxHeartbeats 800000 in
theorem rProduct_gen {P Q G x y v : Int} (w : World) (hH : Has P Q G) (x0 : 0 ≤ x) (xQ : x < Q) (y0 : 0 ≤ y) (yQ : y < Q) (hv : x * y % Q = v) :
    Calls Try.prog 76 #[.agg #[.int .u64 P, .int .u64 Q, .int .u64 G], .int .u64 x, .int .u64 y] w fun e w' => e = .returned (.int .u64 v) ∧ Below w.heap.size w w' := by
  obtain ⟨p5, p3, hQ', pq, g2, gP⟩ := id hH
  have q3 : Q < 1073741824 := by omega
  obtain ⟨m1, m2⟩ := mul_bound x0 (by omega) y0 (by omega)
  have HV := Lib.hid hv
  clear hv pq hH
  go_enter Try.func76, Try.ntmps76
  go_wp2_with fail
  go_ret
  exact ⟨ret_int HV.out, (Below.refl _ _).alloc (Nat.le_refl _) _⟩





end Go.Proofs.Ytjfaaicbojnpaaa
