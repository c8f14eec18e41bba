/- The plain laws behind the statements of chapter 32. -/
import Derived.Test.YtffefhldfnfohaaElgGen
import Derived.Test.YtffefhldfnfohaaLawZ
namespace Go.Proofs.Ytffefhldfnfohaa
open Num
set_option linter.unusedSimpArgs false
set_option linter.unusedVariables false

/-- Two encryptions under one nonce, of two messages. -/
theorem enc_msg {P Q G y m n r : Int} (g : Grp P Q G) (hy : Mem P Q y) (m0 : 0 ≤ m) (mQ : m < Q) (n0 : 0 ≤ n) (nQ : n < Q) (h : powm G m P * powm y r P % P = powm G n P * powm y r P % P) : m = n := by
  have h1 := g.mem_pow g.mem_g m
  have h2 := g.mem_pow g.mem_g n
  have h3 := g.cancel_mul (g.mem_pow hy r) (Int.le_of_lt h1.1) h1.2.1 (Int.le_of_lt h2.1) h2.2.1 h
  exact g.inj g.mem_g g.g_ne m0 mQ n0 nQ h3
/-- What is under a nonce: B = v times A to the key. -/
theorem decS_of {P Q G x a b v most n e : Int} (g : Grp P Q G) (hH : Has P Q G) (x0 : 0 ≤ x) (xQ : x < Q) (ha : Mem P Q a) (bP : b < P) (m0 : 0 ≤ most) (m1 : most ≤ 4096) (v0 : 0 ≤ v) (vP : v < P) (hv : v * powm a x P % P = b) (hl : LogS P G v most n e) :
    DecS P Q G x a b most n e := by
  have hz : askS P Q G [x] [a, b] = 0 := askS_ok hH (by simpa using xQ) (by simpa using ⟨ha.2.1, bP⟩)
  obtain ⟨i, hi⟩ := g.pP.inv (g.nd (g.mem_pow ha x))
  have h1 : b * i % P = v := by
    have h2 : Cg P (b * i) v := by
      rw [← hv]
      refine (Cg.mul_right i (cg_emod P (v * powm a x P))).trans ?_
      rw [Int.mul_assoc]
      exact (Cg.mul_left v hi.2.2).trans (Cg.of_eq (Int.mul_one v))
    rw [h2.emod_eq, Int.emod_eq_of_lt v0 vP]
  exact .inl ⟨hz, .inl ⟨m0, m1, true, i, .inl ⟨rfl, hi⟩, .inl ⟨rfl, by rw [h1]; exact hl⟩⟩⟩
theorem strip_of {P Q G x a b : Int} (g : Grp P Q G) (ha : Mem P Q a) (b0 : 0 ≤ b) (bP : b < P) : ∃ v, 0 ≤ v ∧ v < P ∧ v * powm a x P % P = b := by
  obtain ⟨i, hi⟩ := g.pP.inv (g.nd (g.mem_pow ha x))
  have p5 := g.five
  refine ⟨b * i % P, Int.emod_nonneg _ (by omega), Int.emod_lt_of_pos _ (by omega), ?_⟩
  have h2 : Cg P (b * i % P * powm a x P) b := by
    refine (Cg.mul_right _ (cg_emod P (b * i))).trans ?_
    rw [Int.mul_assoc, Int.mul_comm i]
    exact (Cg.mul_left b hi.2.2).trans (Cg.of_eq (Int.mul_one b))
  rw [h2.emod_eq, Int.emod_eq_of_lt b0 bP]
theorem logS_in {P Q G m most : Int} (g : Grp P Q G) (m0 : 0 ≤ m) (mQ : m < Q) (h : m ≤ most) : LogS P G (powm G m P) most m 0 :=
  .inl ⟨m0, h, rfl, fun y y0 y1 e => by have := g.inj g.mem_g g.g_ne y0 (by omega) m0 mQ e; omega, rfl⟩
theorem logS_out {P Q G m most : Int} (g : Grp P Q G) (m0 : 0 ≤ m) (mQ : m < Q) (h : most < m) : LogS P G (powm G m P) most 0 6 :=
  .inr ⟨fun y y0 y1 e => by have := g.inj g.mem_g g.g_ne y0 (by omega) m0 mQ e; omega, rfl, rfl⟩
theorem powm_swap {a x r P : Int} (x0 : 0 ≤ x) (r0 : 0 ≤ r) : powm (powm a r P) x P = powm (powm a x P) r P := by
  rw [← powm_mul a P r0 x0, ← powm_mul a P x0 r0, Int.mul_comm]
/-- A refreshed ciphertext has the same under it. -/
theorem refresh_of {P Q G x a b v r : Int} (g : Grp P Q G) (x0 : 0 ≤ x) (r0 : 0 ≤ r) (hv : v * powm a x P % P = b) :
    v * powm (a * powm G r P % P) x P % P = b * (powm G 0 P * powm (powm G x P) r P % P) % P := by
  have p5 := g.five
  rw [powm_zero, g.one, Int.one_mul, ← powm_swap x0 r0]
  have h1 : powm (a * powm G r P % P) x P = powm a x P * powm (powm G r P) x P % P := by
    rw [← mul_powm]; exact powm_base (cg_emod _ _)
  rw [h1, ← hv]
  apply Cg.emod_eq
  refine (Cg.mul_left v (cg_emod _ _)).trans ?_
  refine Cg.trans ?_ ((cg_emod P (v * powm a x P)).symm.mul (cg_emod P (powm (powm G r P) x P)).symm)
  rw [Int.mul_assoc]
  exact Cg.refl _ _
end Go.Proofs.Ytffefhldfnfohaa
