/- elgamal.Add and the reference's Plus and Add. -/
import Derived.Test.YtembepajnigfiaaPair
import Derived.Test.YtembepajnigfiaaRefD
namespace Go.Proofs.Ytembepajnigfiaa
open Go.RowKit Num
set_option linter.unusedSimpArgs false
set_option linter.unusedVariables false

theorem Eng.new (w : World) (B : Nat) (P Q G : Int) (h : Boxed w B P Q G) : Eng (w.alloc (.cells #[.int .u64 1, .int .u64 1, .func (.func 25) #[] #[.pointer (some ⟨B, 0, none⟩)]] 58)) w.heap.size B P Q G 1 1 := by
  refine ⟨?_, ?_, ?_, ?_, ?_, by simp, h.alloc _, Nat.ne_of_lt h.lt⟩
  · rw [World.cell?_alloc_new]; rfl
  · rw [World.cell?_alloc_new]; rfl
  · rw [World.cell?_alloc_new]; rfl
  · simp
  · simp

set_option maxHeartbeats 2000000 in
theorem eAdd_bad {P Q G a b c d r : Int} (w : World) (hP : 0 ≤ P) (hQ : 0 ≤ Q) (hG : 0 ≤ G) (hr : askS P Q G [] [a, b, c, d] = r) (hne : r ≠ 0) :
    Calls Try.prog 12 #[.agg #[.int .u64 P, .int .u64 Q, .int .u64 G], .agg #[.int .u64 a, .int .u64 b], .agg #[.int .u64 c, .int .u64 d]] w fun e w' => e = .returned (.tuple #[.agg #[.int .u64 0, .int .u64 0], .int .i64 r]) ∧ Below w.heap.size w w' := by
  have HR := Lib.hid hr
  clear hr
  have hnb : (r != 0) = true := by simpa using hne
  have p0 := Pair.new ((((w.alloc (.cells #[.int .u64 P, .int .u64 Q, .int .u64 G] 24)).alloc (.cells #[.int .u64 a, .int .u64 b] 45)).alloc (.cells #[.int .u64 c, .int .u64 d] 45))) 0 0 45
  rw [show ((((w.alloc (.cells #[.int .u64 P, .int .u64 Q, .int .u64 G] 24)).alloc (.cells #[.int .u64 a, .int .u64 b] 45)).alloc (.cells #[.int .u64 c, .int .u64 d] 45))).heap.size = w.heap.size + 1 + 1 + 1 by simp] at p0
  have H0 := Lib.hid (p0.alloc (.cells #[.int .u64 a, .int .u64 b, .int .u64 c, .int .u64 d] 22))
  clear p0
  go_enter Try.func12, Try.ntmps12
  go_wp2_with fail
  refine (echeck_any _ hP hQ hG (ShL.nil _) (ShL.laid _ [a, b, c, d] _ _ _ _ _ (by simp) rfl rfl) (by simp) (by simp) HR.out).mono ?_
  rintro e w1 ⟨rfl, hb1⟩
  have p1 := H0.out.keep hb1
  have HB := Lib.hid (show Below w.heap.size w w1 from Below.trans (by repeat (first | exact Below.refl _ _ | (refine Below.alloc ?_ (by simp <;> omega) _))) (hb1.mono (by simp <;> omega)))
  clear hb1 H0
  obtain ⟨c0, c1, f0, f1, -⟩ := id p1
  go_wp2_with fail
  exact bodyPost_ret (res_pair rfl (p1.stored 0 0) _ rfl rfl) rfl ⟨rfl, (HB.out.setCell (by simp <;> omega) _).setCell (by simp <;> omega) _⟩

set_option maxHeartbeats 4000000 in
theorem eAdd_ok {P Q G a b c d x y : Int} (w : World) (hH : Has P Q G) (a0 : 0 ≤ a) (aP : a < P) (b0 : 0 ≤ b) (bP : b < P) (c0 : 0 ≤ c) (cP : c < P) (d0 : 0 ≤ d) (dP : d < P) (hx : a * c % P = x) (hy : b * d % P = y) :
    Calls Try.prog 12 #[.agg #[.int .u64 P, .int .u64 Q, .int .u64 G], .agg #[.int .u64 a, .int .u64 b], .agg #[.int .u64 c, .int .u64 d]] w fun e w' => e = .returned (.tuple #[.agg #[.int .u64 x, .int .u64 y], .int .i64 0]) ∧ Below w.heap.size w w' := by
  have HR := Lib.hid (askS_ok (es := []) (ns := [a, b, c, d]) hH (by simp) (by simp; omega))
  have hP : 0 ≤ P := by have := hH.1; omega
  have hP1 : 1 < P := by have := hH.1; omega
  have hQ : 0 ≤ Q := hH.2.2.1
  have hG : 0 ≤ G := by have := hH.2.2.2.2.1; omega
  have HX := Lib.hid hx
  have HY := Lib.hid hy
  have HH := Lib.hid hH
  have HA := Lib.hid (show 1 * a % P = a by rw [Int.one_mul]; exact Int.emod_eq_of_lt a0 aP)
  have HB' := Lib.hid (show 1 * b % P = b by rw [Int.one_mul]; exact Int.emod_eq_of_lt b0 bP)
  clear hx hy hH
  have p0 := Pair.new ((((w.alloc (.cells #[.int .u64 P, .int .u64 Q, .int .u64 G] 24)).alloc (.cells #[.int .u64 a, .int .u64 b] 45)).alloc (.cells #[.int .u64 c, .int .u64 d] 45))) 0 0 45
  rw [show ((((w.alloc (.cells #[.int .u64 P, .int .u64 Q, .int .u64 G] 24)).alloc (.cells #[.int .u64 a, .int .u64 b] 45)).alloc (.cells #[.int .u64 c, .int .u64 d] 45))).heap.size = w.heap.size + 1 + 1 + 1 by simp] at p0
  have H0 := Lib.hid (p0.alloc (.cells #[.int .u64 a, .int .u64 b, .int .u64 c, .int .u64 d] 22))
  have q0 := Pair.new (((w.alloc (.cells #[.int .u64 P, .int .u64 Q, .int .u64 G] 24)).alloc (.cells #[.int .u64 a, .int .u64 b] 45))) c d 45
  rw [show (((w.alloc (.cells #[.int .u64 P, .int .u64 Q, .int .u64 G] 24)).alloc (.cells #[.int .u64 a, .int .u64 b] 45))).heap.size = w.heap.size + 1 + 1 by simp] at q0
  have H1 := Lib.hid ((q0.alloc (.cells #[.int .u64 0, .int .u64 0] 45)).alloc (.cells #[.int .u64 a, .int .u64 b, .int .u64 c, .int .u64 d] 22))
  have r0 := Pair.new ((w.alloc (.cells #[.int .u64 P, .int .u64 Q, .int .u64 G] 24))) a b 45
  rw [show ((w.alloc (.cells #[.int .u64 P, .int .u64 Q, .int .u64 G] 24))).heap.size = w.heap.size + 1 by simp] at r0
  have H2 := Lib.hid (((r0.alloc (.cells #[.int .u64 c, .int .u64 d] 45)).alloc (.cells #[.int .u64 0, .int .u64 0] 45)).alloc (.cells #[.int .u64 a, .int .u64 b, .int .u64 c, .int .u64 d] 22))
  have H3 := Lib.hid ((((Boxed.new w P Q G 24).alloc (.cells #[.int .u64 a, .int .u64 b] 45)).alloc (.cells #[.int .u64 c, .int .u64 d] 45)).alloc (.cells #[.int .u64 0, .int .u64 0] 45) |>.alloc (.cells #[.int .u64 a, .int .u64 b, .int .u64 c, .int .u64 d] 22))
  clear p0 q0 r0
  go_enter Try.func12, Try.ntmps12
  go_wp2_with fail
  refine (echeck_any _ hP hQ hG (ShL.nil _) (ShL.laid _ [a, b, c, d] _ _ _ _ _ (by simp) rfl rfl) (by simp) (by simp) HR.out).mono ?_
  rintro e w1 ⟨rfl, hb1⟩
  have p1 := H0.out.keep hb1
  have q1 := H1.out.keep hb1
  have r1 := H2.out.keep hb1
  have g1 := H3.out.keep hb1
  have HB := Lib.hid (show Below w.heap.size w w1 from Below.trans (by repeat (first | exact Below.refl _ _ | (refine Below.alloc ?_ (by simp <;> omega) _))) (hb1.mono (by simp <;> omega)))
  clear hb1 H0 H1 H2 H3
  have P1 := Lib.hid p1
  have Q1 := Lib.hid q1
  have R1 := Lib.hid r1
  have G1 := Lib.hid g1
  obtain ⟨k0, k1, k2, -⟩ := g1
  clear p1 q1 r1
  go_wp2_with fail
  refine (start_any P Q G w1).mono ?_
  rintro e w2 ⟨rfl, hb2, hg2⟩
  have P2 := Lib.hid (P1.out.keep hb2)
  have Q2 := Lib.hid (Q1.out.keep hb2)
  have R2 := Lib.hid (R1.out.keep hb2)
  have HB2 := Lib.hid (HB.out.trans (hb2.mono HB.out.size))
  have HG2 := Lib.hid hg2
  have hz2 := hb2.size
  have lt1 := P1.out.lt
  clear hb2 hg2 k0 k1 k2
  have hE := Eng.new w2 w1.heap.size P Q G HG2.out
  have r2 := R2.out.alloc (.cells #[.int .u64 1, .int .u64 1, .func (.func 25) #[] #[.pointer (some ⟨w1.heap.size, 0, none⟩)]] 58)
  have P3 := Lib.hid (P2.out.alloc (.cells #[.int .u64 1, .int .u64 1, .func (.func 25) #[] #[.pointer (some ⟨w1.heap.size, 0, none⟩)]] 58))
  have Q3 := Lib.hid (Q2.out.alloc (.cells #[.int .u64 1, .int .u64 1, .func (.func 25) #[] #[.pointer (some ⟨w1.heap.size, 0, none⟩)]] 58))
  have HB3 := Lib.hid (HB2.out.alloc HB2.out.size (.cells #[.int .u64 1, .int .u64 1, .func (.func 25) #[] #[.pointer (some ⟨w1.heap.size, 0, none⟩)]] 58))
  have HE := Lib.hid hE
  obtain ⟨m0, m1, -, -, -⟩ := r2
  have hs2 := HB2.out.size
  have ltq := Q2.out.lt
  have ltp := P2.out.lt
  clear hE P2 Q2 R2 P1 Q1 R1 HB HR
  go_wp2_with fail
  refine (eadd_any _ HE.out HH.out (by omega) hP1 (by omega) hP1 a0 aP b0 bP HA.out HB'.out).mono ?_
  rintro e w3 ⟨rfl, hE3, hA3⟩
  have HE3 := Lib.hid hE3
  have P4 := Lib.hid (P3.out.added hA3 (by omega))
  have q4 := Q3.out.added hA3 (by omega)
  have HB4 := Lib.hid (HB3.out.trans (hA3.below w.heap.size HB3.out.size (by omega)))
  obtain ⟨n0, n1, -, -, -⟩ := q4
  clear hE3 hA3 HE P3 Q3 HB3 m0 m1
  go_wp2_with fail
  refine (eadd_any _ HE3.out HH.out a0 aP b0 bP c0 cP d0 dP HX.out HY.out).mono ?_
  rintro e w4 ⟨rfl, hE4, hA4⟩
  have p5 := P4.out.added hA4 (by omega)
  have HB5 := Lib.hid (HB4.out.trans (hA4.below w.heap.size HB4.out.size (by omega)))
  obtain ⟨e0, e1, -, -, -, -, -, -⟩ := hE4
  obtain ⟨c0', c1', f0', f1', -⟩ := id p5
  clear hA4 HE3 P4 HB4 n0 n1
  go_wp2_with fail
  exact bodyPost_ret (res_pair rfl (p5.stored x y) _ rfl rfl) rfl ⟨rfl, (HB5.out.setCell (by simp <;> omega) _).setCell (by simp <;> omega) _⟩
end Go.Proofs.Ytembepajnigfiaa
