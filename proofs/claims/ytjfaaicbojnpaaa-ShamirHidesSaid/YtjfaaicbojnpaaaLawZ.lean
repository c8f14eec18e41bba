/- Plain laws of a group that several chapters use, and the group of the examples. -/
import Derived.Test.YtjfaaicbojnpaaaValid
import Derived.Test.YtjfaaicbojnpaaaPrime
namespace Go.Proofs.Ytjfaaicbojnpaaa
open Num
set_option linter.unusedSimpArgs false
set_option linter.unusedVariables false

theorem has_small : Has 23 11 4 := by unfold Has; omega
theorem powm_nat (a x m r : Nat) (h : a ^ x % m = r) : powm (a : Int) (x : Int) (m : Int) = (r : Int) := by
  subst h
  simp [powm, ← Int.natCast_pow, ← Int.natCast_emod]
theorem valid_small : Valid 23 11 4 := ⟨has_small, pr23, pr11, powm_nat 4 11 23 1 (by decide)⟩
theorem invS_of {m a r : Int} (h0 : 0 ≤ r) (h1 : r < m) (h2 : a * r % m = 1 % m) : InvS m a true r := .inl ⟨rfl, h0, h1, cg_of_emod h2⟩

theorem Num.Grp.cancel_mul {P Q G a b c : Int} (g : Grp P Q G) (hc : Mem P Q c) (ha : 0 ≤ a) (haP : a < P) (hb : 0 ≤ b) (hbP : b < P) (h : a * c % P = b * c % P) : a = b := by
  obtain ⟨i, i0, i1, ic⟩ := g.pP.inv (g.nd hc)
  have h1 : a * c * i % P = b * c * i % P := by rw [Int.mul_emod, h, ← Int.mul_emod]
  have h2 : c * i % P = 1 := by rw [ic.emod_eq]; exact g.one
  have h3 : ∀ z, z * c * i % P = z % P := fun z => by rw [Int.mul_assoc, Int.mul_emod, h2, Int.mul_one, Int.emod_emod_of_dvd _ (Int.dvd_refl _)]
  rw [h3, h3, Int.emod_eq_of_lt ha haP, Int.emod_eq_of_lt hb hbP] at h1
  exact h1
theorem Num.Grp.g_ne {P Q G : Int} (g : Grp P Q G) : G ≠ 1 := by have := g.g2; omega
end Go.Proofs.Ytjfaaicbojnpaaa
