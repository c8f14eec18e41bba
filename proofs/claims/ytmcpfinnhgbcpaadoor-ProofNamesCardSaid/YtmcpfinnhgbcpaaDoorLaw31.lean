/- The plain laws behind the statements of chapter 31: responses, special soundness, simulation. -/
import Derived.Test.YtmcpfinnhgbcpaaDoorPrs
namespace Go.Proofs.YtmcpfinnhgbcpaaDoor
open Num
set_option linter.unusedSimpArgs false
set_option linter.unusedVariables false

theorem powm_lin {P Q G : Int} (g : Grp P Q G) {z k c : Int} (z0 : 0 ≤ z) (k0 : 0 ≤ k) (c0 : 0 ≤ c) : powm G k P * powm (powm G z P) c P % P = powm G (k + z * c) P := by
  rw [← powm_mul G P z0 c0, ← powm_add G P k0 (Int.mul_nonneg z0 c0)]
/-- The response of x and k to c holds for the powers of x and k. -/
theorem resp_holds {P Q G x k c s : Int} (g : Grp P Q G) (x0 : 0 ≤ x) (k0 : 0 ≤ k) (c0 : 0 ≤ c) (hs : (k + c * x % Q) % Q = s) : powm G s P = powm G k P * powm (powm G x P) c P % P := by
  have q2 := g.pQ.1
  rw [powm_lin g x0 k0 c0]
  have s0 : 0 ≤ s := by rw [← hs]; exact Int.emod_nonneg _ (by omega)
  refine g.period_cg g.mem_g s0 (Int.add_nonneg k0 (Int.mul_nonneg x0 c0)) ?_
  rw [← hs]
  refine (cg_emod Q _).trans ((Cg.refl Q k).add ?_)
  rw [Int.mul_comm x c]
  exact cg_emod Q _
/-- What an equation of powers says of the exponents. -/
theorem exp_of_eq {P Q G z k c s : Int} (g : Grp P Q G) (z0 : 0 ≤ z) (k0 : 0 ≤ k) (c0 : 0 ≤ c) (s0 : 0 ≤ s) (sQ : s < Q) (h : powm G s P = powm G k P * powm (powm G z P) c P % P) : Cg Q s (k + z * c) := by
  rw [powm_lin g z0 k0 c0] at h
  have q2 := g.pQ.1
  have h0 : 0 ≤ k + z * c := Int.add_nonneg k0 (Int.mul_nonneg z0 c0)
  rw [g.period g.mem_g h0] at h
  have := g.inj g.mem_g g.g_ne s0 sQ (Int.emod_nonneg _ (by omega)) (Int.emod_lt_of_pos _ (by omega)) h
  rw [this]
  exact cg_emod Q _
/-- Special soundness. -/
theorem sound {P Q G y r c s d t m n u x : Int} (g : Grp P Q G) (hy : Mem P Q y) (hr : Mem P Q r) (c0 : 0 ≤ c) (d0 : 0 ≤ d) (s0 : 0 ≤ s) (sQ : s < Q) (t0 : 0 ≤ t) (tQ : t < Q)
    (h1 : powm G s P = r * powm y c P % P) (h2 : powm G t P = r * powm y d P % P) (hm : (c - d) % Q = m) (hn : (s - t) % Q = n) (hu : Inv Q m u) (hx : n * u % Q = x) : powm G x P = y := by
  have q2 := g.pQ.1
  obtain ⟨z, z0, zQ, hz⟩ := g.whole hy
  obtain ⟨k, k0, kQ, hk⟩ := g.whole hr
  rw [← hz, ← hk] at h1 h2
  have e1 := exp_of_eq g z0 k0 c0 s0 sQ h1
  have e2 := exp_of_eq g z0 k0 d0 t0 tQ h2
  have e3 : Cg Q n (z * m) := by
    rw [← hn]
    refine (cg_emod Q _).trans ((e1.sub e2).trans ?_)
    refine Cg.trans (Cg.of_eq (show k + z * c - (k + z * d) = z * (c - d) by rw [Int.mul_sub]; omega)) (Cg.mul_left z ?_)
    rw [← hm]; exact (cg_emod Q _).symm
  rw [← hz]
  have x0 : 0 ≤ x := by rw [← hx]; exact Int.emod_nonneg _ (by omega)
  refine g.period_cg g.mem_g x0 z0 ?_
  rw [← hx]
  refine (cg_emod Q _).trans ((Cg.mul_right u e3).trans ?_)
  rw [Int.mul_assoc]
  exact (Cg.mul_left z hu.2.2).trans (Cg.of_eq (Int.mul_one z))
/-- Two different challenges have a difference that can be inverted. -/
theorem diff_inv {Q c d m : Int} (hQ : Pr Q) (c0 : 0 ≤ c) (cQ : c < Q) (d0 : 0 ≤ d) (dQ : d < Q) (hn : c ≠ d) (hm : (c - d) % Q = m) : ∃ u, Inv Q m u := by
  have q2 := hQ.1
  refine hQ.inv (hQ.not_dvd ?_ ?_)
  · have h0 : 0 ≤ m := by rw [← hm]; exact Int.emod_nonneg _ (by omega)
    rcases Int.lt_or_eq_of_le h0 with h | h
    · exact h
    · exfalso
      rw [← h] at hm
      have hc : Cg Q c d := Int.dvd_of_emod_eq_zero hm
      exact hn (hc.eq c0 cQ d0 dQ)
  · rw [← hm]; exact Int.emod_lt_of_pos _ (by omega)
/-- The number that a challenge and a response simulate. -/
theorem simulates {P Q G b a u r : Int} (g : Grp P Q G) (hb : Mem P Q b) (a0 : 0 ≤ a) (aP : a < P) (hu : Inv P b u) (hr : a * u % P = r) : a = r * b % P ∧ ∀ o, 0 ≤ o → o < P → a = o * b % P → o = r := by
  have p5 := g.five
  have h1 : a = r * b % P := by
    have h2 : Cg P (r * b) a := by
      rw [← hr]
      refine (Cg.mul_right b (cg_emod P (a * u))).trans ?_
      rw [Int.mul_assoc, Int.mul_comm u b]
      exact (Cg.mul_left a hu.2.2).trans (Cg.of_eq (Int.mul_one a))
    rw [h2.emod_eq, Int.emod_eq_of_lt a0 aP]
  refine ⟨h1, fun o o0 oP h => g.cancel_mul hb o0 oP ?_ ?_ (by rw [← h]; exact h1)⟩
  · rw [← hr]; exact Int.emod_nonneg _ (by omega)
  · rw [← hr]; exact Int.emod_lt_of_pos _ (by omega)
end Go.Proofs.YtmcpfinnhgbcpaaDoor
