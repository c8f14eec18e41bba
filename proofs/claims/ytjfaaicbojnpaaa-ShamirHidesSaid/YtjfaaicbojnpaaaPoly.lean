/- Plain: polynomials as lists of coefficients, and their values. No program in sight. -/
import Derived.Test.YtjfaaicbojnpaaaNum
namespace Go.Proofs.Ytjfaaicbojnpaaa.Num

/-- The value of a polynomial, exactly. -/
def pv (i : Int) : List Int → Int
  | [] => 0
  | a :: l => a + i * pv i l
theorem pv_append (i : Int) (l m : List Int) : pv i (l ++ m) = pv i l + i ^ l.length * pv i m := by
  induction l with
  | nil => simp [pv]
  | cons a l ih =>
    show a + i * pv i (l ++ m) = a + i * pv i l + i ^ (l.length + 1) * pv i m
    rw [ih, Int.pow_succ]
    grind
/-- The value of a polynomial below Q. -/
def valS (Q i : Int) (xs : List Int) : Int := pv i xs % Q
theorem valS_range {Q : Int} (i : Int) (hQ : 0 < Q) (xs : List Int) : 0 ≤ valS Q i xs ∧ valS Q i xs < Q :=
  ⟨Int.emod_nonneg _ (by omega), Int.emod_lt_of_pos _ hQ⟩
theorem valS_cg (Q i : Int) (xs : List Int) : Cg Q (valS Q i xs) (pv i xs) := cg_emod _ _
end Go.Proofs.Ytjfaaicbojnpaaa.Num
