/- The plain laws behind the statements of chapter 32. -/
import Derived.Test.YtffefhldfnfohaaElgGen
namespace Go.Proofs.Ytffefhldfnfohaa
open Num
set_option linter.unusedSimpArgs false
set_option linter.unusedVariables false

theorem Num.Grp.cancel_mul {P Q G a b c : Int} (g : Grp P Q G) (hc : Mem P Q c) (ha : 0 ≤ a) (haP : a < P) (hb : 0 ≤ b) (hbP : b < P) (h : a * c % P = b * c % P) : a = b := by
  obtain ⟨i, i0, i1, ic⟩ := g.pP.inv (g.nd hc)
  have h1 : a * c * i % P = b * c * i % P := by rw [Int.mul_emod, h, ← Int.mul_emod]
  have h2 : c * i % P = 1 := by rw [ic.emod_eq]; exact g.one
  have h3 : ∀ z, z * c * i % P = z % P := fun z => by rw [Int.mul_assoc, Int.mul_emod, h2, Int.mul_one, Int.emod_emod_of_dvd _ (Int.dvd_refl _)]
  rw [h3, h3, Int.emod_eq_of_lt ha haP, Int.emod_eq_of_lt hb hbP] at h1
  exact h1
theorem Num.Grp.g_ne {P Q G : Int} (g : Grp P Q G) : G ≠ 1 := by have := g.g2; omega
/-- Two encryptions under one nonce, of two messages. -/
theorem enc_msg {P Q G y m n r : Int} (g : Grp P Q G) (hy : Mem P Q y) (m0 : 0 ≤ m) (mQ : m < Q) (n0 : 0 ≤ n) (nQ : n < Q) (h : powm G m P * powm y r P % P = powm G n P * powm y r P % P) : m = n := by
  have h1 := g.mem_pow g.mem_g m
  have h2 := g.mem_pow g.mem_g n
  have h3 := g.cancel_mul (g.mem_pow hy r) (Int.le_of_lt h1.1) h1.2.1 (Int.le_of_lt h2.1) h2.2.1 h
  exact g.inj g.mem_g g.g_ne m0 mQ n0 nQ h3
end Go.Proofs.Ytffefhldfnfohaa
