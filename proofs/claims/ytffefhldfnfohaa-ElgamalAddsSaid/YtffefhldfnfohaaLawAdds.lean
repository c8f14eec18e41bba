/- The plain law of adding encryptions. -/
import Derived.Test.YtffefhldfnfohaaLaw32
import Derived.Test.YtffefhldfnfohaaLawL
namespace Go.Proofs.Ytffefhldfnfohaa
open Num
set_option linter.unusedSimpArgs false
set_option linter.unusedVariables false

/-- The encryption of M under y with nonce R. -/
def encS (P G y M R : Int) : Int × Int := (powm G R P, powm G M P * powm y R P % P)
theorem encS_plus {P G y M R m r : Int} (hP : 0 < P) (M0 : 0 ≤ M) (R0 : 0 ≤ R) (m0 : 0 ≤ m) (r0 : 0 ≤ r) : plusP P (encS P G y M R) (encS P G y m r) = encS P G y (M + m) (R + r) := by
  unfold plusP encS
  rw [powm_add G P R0 r0, powm_add G P M0 m0, powm_add y P R0 r0]
  refine Prod.ext rfl ?_
  show powm G M P * powm y R P % P * (powm G m P * powm y r P % P) % P = powm G M P * powm G m P % P * (powm y R P * powm y r P % P) % P
  rw [← Int.mul_emod, ← Int.mul_emod]
  congr 1
  rw [Int.mul_assoc, Int.mul_assoc, Int.mul_left_comm (powm y R P)]
theorem encS_zero {P Q G y : Int} (g : Grp P Q G) : encS P G y 0 0 = (1, 1) := by
  simp [encS, powm_zero, g.one]
theorem allP_push {P : Int} (ps : List (Int × Int)) (q : Int × Int) : allP P (ps ++ [q]) = plusP P (allP P ps) q := by simp [allP]
theorem okS_push {P : Int} {ps : List (Int × Int)} {u v : Int} (h : okS P ps = true) (hu : u < P) (hv : v < P) : okS P (ps ++ [(u, v)]) = true := by
  rw [okS_append, h]; simp [okS, hu, hv]
/-- A sum of encryptions decrypts to the sum of the messages. -/
theorem decS_encS {P Q G x M R : Int} (g : Grp P Q G) (hH : Has P Q G) (x0 : 0 ≤ x) (xQ : x < Q) (M0 : 0 ≤ M) (MQ : M < Q) (M1 : M ≤ 4096) (R0 : 0 ≤ R) {a b : Int} (h : encS P G (powm G x P) M R = (a, b)) : DecS P Q G x a b 4096 M 0 := by
  have e1 : powm G R P = a := congrArg Prod.fst h
  have e2 : powm G M P * powm (powm G x P) R P % P = b := congrArg Prod.snd h
  have ma : Mem P Q a := by rw [← e1]; exact g.mem_pow g.mem_g R
  have mb : Mem P Q b := by rw [← e2]; exact g.mem_mul (g.mem_pow g.mem_g M) (g.mem_pow (g.mem_pow g.mem_g x) R)
  have mM := g.mem_pow g.mem_g M
  exact decS_of g hH x0 xQ ma mb.2.1 (by omega) (by omega) (Int.le_of_lt mM.1) mM.2.1 (by rw [← e1, ← e2, powm_swap x0 R0]) (logS_in g M0 MQ M1)
end Go.Proofs.Ytffefhldfnfohaa
