/- The plain laws behind ProofBitSound. -/
import Derived.Test.YtmcpfinnhgbcpaaSimA
import Derived.Test.YtmcpfinnhgbcpaaSchE
import Derived.Laws.StructEq
namespace Go.Proofs.Ytmcpfinnhgbcpaa
open Go.RowKit Num
set_option linter.unusedSimpArgs false
set_option linter.unusedVariables false

@[go_sem] theorem eq_p64 (a b c d : Int) (w : World) : (Op.equalIn 10000 39 (.agg #[.int .u64 a, .int .u64 b]) (.agg #[.int .u64 c, .int .u64 d])).run Try.prog w = .ok (a == c && b == d) w := by
  have u3 := Try.underlying22
  have a3 := Try.isAgg22
  have z3 := Try.sizeOf22
  rw [show (10000 : Nat) = 9999 + 1 from rfl, Op.equalIn]
  simp only [Sem.run_bind, run_underlying Try.underlying39, Result.andThen_ok]
  simp only [Std.Legacy.Range.forIn_eq_forIn_range', Std.Legacy.Range.size, Nat.sub_zero, Nat.add_sub_cancel, Nat.div_one, List.range'_succ, List.range'_zero, List.forIn_cons, List.forIn_nil]
  go_simp
  by_cases h1 : a = c <;> by_cases h2 : b = d <;> simp [h1, h2]
theorem exp_cg {P Q G x y : Int} (g : Grp P Q G) (x0 : 0 ≤ x) (y0 : 0 ≤ y) (h : powm G x P = powm G y P) : Cg Q x y := by
  have q2 := g.pQ.1
  rw [g.period g.mem_g x0, g.period g.mem_g y0] at h
  have := g.inj g.mem_g g.g_ne (Int.emod_nonneg _ (by omega)) (Int.emod_lt_of_pos _ (by omega)) (Int.emod_nonneg _ (by omega)) (Int.emod_lt_of_pos _ (by omega)) h
  exact cg_of_emod this
/-- Special soundness for another base. -/
theorem sound_of {P Q G a d s c z e w m n u x : Int} (g : Grp P Q G) (ha : Mem P Q a) (hd : Mem P Q d) (hs : Mem P Q s) (c0 : 0 ≤ c) (cQ : c < Q) (e0 : 0 ≤ e) (eQ : e < Q) (hne : c ≠ e) (z0 : 0 ≤ z) (zQ : z < Q) (w0 : 0 ≤ w) (wQ : w < Q)
    (h1 : powm a z P = s * powm d c P % P) (h2 : powm a w P = s * powm d e P % P) (hm : (c - e) % Q = m) (hn : (z - w) % Q = n) (hu : Inv Q m u) (hx : n * u % Q = x) : powm a x P = d := by
  have q2 := g.pQ.1
  have p5 := g.five
  obtain ⟨i, i0, iQ, hi⟩ := g.whole ha
  obtain ⟨j, j0, jQ, hj⟩ := g.whole hd
  obtain ⟨k, k0, kQ, hk⟩ := g.whole hs
  rw [← hi, ← hj, ← hk, ← powm_mul G P i0 z0, powm_lin g j0 k0 c0] at h1
  rw [← hi, ← hj, ← hk, ← powm_mul G P i0 w0, powm_lin g j0 k0 e0] at h2
  have f1 : Cg Q (i * z) (k + j * c) := exp_cg g (Int.mul_nonneg i0 z0) (Int.add_nonneg k0 (Int.mul_nonneg j0 c0)) h1
  have f2 : Cg Q (i * w) (k + j * e) := exp_cg g (Int.mul_nonneg i0 w0) (Int.add_nonneg k0 (Int.mul_nonneg j0 e0)) h2
  have x0 : 0 ≤ x := by rw [← hx]; exact Int.emod_nonneg _ (by omega)
  have f3 : Cg Q (i * n) (j * m) := by
    have g1 : Cg Q (i * n) (i * z - i * w) := by
      refine (Cg.mul_left i (Cg.trans (Cg.of_eq hn.symm) (cg_emod Q _))).trans (Cg.of_eq (Int.mul_sub _ _ _))
    have g2 : Cg Q (j * m) (j * c - j * e) := by
      refine (Cg.mul_left j (Cg.trans (Cg.of_eq hm.symm) (cg_emod Q _))).trans (Cg.of_eq (Int.mul_sub _ _ _))
    refine g1.trans ((f1.sub f2).trans (Cg.trans (Cg.of_eq (by omega)) g2.symm))
  have f4 : Cg Q (i * x) j := by
    refine (Cg.mul_left i (Cg.trans (Cg.of_eq hx.symm) (cg_emod Q _))).trans ?_
    rw [← Int.mul_assoc]
    refine (Cg.mul_right u f3).trans ?_
    rw [Int.mul_assoc]
    exact (Cg.mul_left j hu.2.2).trans (Cg.of_eq (Int.mul_one j))
  rw [← hi, ← hj, ← powm_mul G P i0 x0]
  exact g.period_cg g.mem_g (Int.mul_nonneg i0 x0) j0 f4
/-- What one different challenge gives away. -/
theorem bit_opens {P Q G y a b ti r s c z e w i m n u x : Int} (g : Grp P Q G) (hy : Mem P Q y) (ha : Mem P Q a) (hb : Mem P Q b) (hr : Mem P Q r) (hs : Mem P Q s) (c0 : 0 ≤ c) (cQ : c < Q) (e0 : 0 ≤ e) (eQ : e < Q) (hne : c ≠ e) (z0 : 0 ≤ z) (zQ : z < Q) (w0 : 0 ≤ w) (wQ : w < Q)
    (h1 : powm G z P = r * powm a c P % P) (h2 : powm G w P = r * powm a e P % P) (h3 : powm y z P = s * powm ti c P % P) (h4 : powm y w P = s * powm ti e P % P)
    (ht : Mem P Q ti) (hti : powm G i P * ti % P = b) (hm : (c - e) % Q = m) (hn : (z - w) % Q = n) (hu : Inv Q m u) (hx : n * u % Q = x) : powm G x P = a ∧ powm G i P * powm y x P % P = b := by
  refine ⟨sound g ha hr c0 e0 z0 zQ w0 wQ h1 h2 hm hn hu hx, ?_⟩
  rw [sound_of g hy ht hs c0 cQ e0 eQ hne z0 zQ w0 wQ h3 h4 hm hn hu hx]
  exact hti
theorem target_one {P Q G b nn pp t : Int} (g : Grp P Q G) (hb : Mem P Q b) (hn : (0 - 1) % Q = nn) (hp : powm G nn P = pp) (ht : b * pp % P = t) : powm G 1 P * t % P = b := by
  have hi := inv_g g hn hp
  rw [powm_one (by have := g.g2; omega) g.gP, ← ht]
  have h : Cg P (G * (b * pp % P)) b := by
    refine (Cg.mul_left G (cg_emod P (b * pp))).trans ?_
    rw [Int.mul_left_comm]
    exact (Cg.mul_left b hi.2.2).trans (Cg.of_eq (Int.mul_one b))
  rw [h.emod_eq, Int.emod_eq_of_lt (Int.le_of_lt hb.1) hb.2.1]
end Go.Proofs.Ytmcpfinnhgbcpaa
