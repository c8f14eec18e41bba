/- Sums of lists of ciphertexts: the plain sum, and elgamal.Sum. -/
import Derived.Test.YtembepajnigfiaaElgAdd
import Derived.Test.YtembepajnigfiaaListS
import Derived.LoopTactic
namespace Go.Proofs.Ytembepajnigfiaa
open Go.RowKit Num
set_option linter.unusedSimpArgs false
set_option linter.unusedVariables false

def plusP (P : Int) (a b : Int × Int) : Int × Int := (a.1 * b.1 % P, a.2 * b.2 % P)
/-- The sum of a list of ciphertexts. -/
def allP (P : Int) (ps : List (Int × Int)) : Int × Int := ps.foldl (plusP P) (1, 1)
def okS (P : Int) (ps : List (Int × Int)) : Bool := ps.all fun p => decide (p.1 < P) && decide (p.2 < P)
theorem allP_snoc (P : Int) (ps : List (Int × Int)) (k : Nat) (u v : Int) (h : k < ps.length) (hg : ps.getD k (0, 0) = (u, v)) : allP P (ps.take (k + 1)) = plusP P (allP P (ps.take k)) (u, v) := by
  have e : ps[k]? = some (u, v) := by rw [List.getD_eq_getElem?_getD] at hg; rw [List.getElem?_eq_getElem h] at hg ⊢; simpa using hg
  rw [List.take_add_one, e]
  simp [allP]
theorem okS_snoc (P : Int) (ps : List (Int × Int)) (k : Nat) (u v : Int) (h : k < ps.length) (hg : ps.getD k (0, 0) = (u, v)) : okS P (ps.take (k + 1)) = (okS P (ps.take k) && (decide (u < P) && decide (v < P))) := by
  have e : ps[k]? = some (u, v) := by rw [List.getD_eq_getElem?_getD] at hg; rw [List.getElem?_eq_getElem h] at hg ⊢; simpa using hg
  rw [List.take_add_one, e]
  simp [okS, List.all_append]
theorem okS_not (P : Int) (ps : List (Int × Int)) (k : Nat) (u v : Int) (h : k < ps.length) (hg : ps.getD k (0, 0) = (u, v)) (hb : ¬ (u < P ∧ v < P)) : okS P ps = false := by
  cases ho : okS P ps with
  | false => rfl
  | true =>
    exfalso
    have e : ps[k]? = some (u, v) := by rw [List.getD_eq_getElem?_getD] at hg; rw [List.getElem?_eq_getElem h] at hg ⊢; simpa using hg
    have hm : (u, v) ∈ ps := List.mem_of_getElem? e
    have := List.all_eq_true.1 ho _ hm
    simp at this
    exact hb this
theorem mem_getD {ps : List (Int × Int)} {k : Nat} {u v : Int} (h : k < ps.length) (hg : ps.getD k (0, 0) = (u, v)) : (u, v) ∈ ps := by
  have e : ps[k]? = some (u, v) := by rw [List.getD_eq_getElem?_getD] at hg; rw [List.getElem?_eq_getElem h] at hg ⊢; simpa using hg
  exact List.mem_of_getElem? e
/-- What Sum gives. -/
def SumS (P Q G : Int) (ps : List (Int × Int)) (x y e : Int) : Prop :=
  (¬ Has P Q G ∧ x = 0 ∧ y = 0 ∧ e = 300) ∨ (Has P Q G ∧ 4096 < ps.length ∧ x = 0 ∧ y = 0 ∧ e = 4) ∨
  (Has P Q G ∧ ps.length ≤ 4096 ∧ okS P ps = false ∧ x = 0 ∧ y = 0 ∧ e = 2) ∨ (Has P Q G ∧ ps.length ≤ 4096 ∧ okS P ps = true ∧ allP P ps = (x, y) ∧ e = 0)
theorem SumS.exists (P Q G : Int) (ps : List (Int × Int)) : ∃ x y e, SumS P Q G ps x y e := by
  by_cases hH : Has P Q G
  · by_cases hn : ps.length ≤ 4096
    · cases ho : okS P ps with
      | false => exact ⟨_, _, _, .inr (.inr (.inl ⟨hH, hn, ho, rfl, rfl, rfl⟩))⟩
      | true => exact ⟨_, _, _, .inr (.inr (.inr ⟨hH, hn, ho, rfl, rfl⟩))⟩
    · exact ⟨_, _, _, .inr (.inl ⟨hH, by omega, rfl, rfl, rfl⟩)⟩
  · exact ⟨_, _, _, .inl ⟨hH, rfl, rfl, rfl⟩⟩

/-- What holds behind k rounds of Sum. -/
structure SumIn (w wr : World) (E B g R : Nat) (P Q G : Int) (ps : List (Int × Int)) (k : Nat) : Prop where
  eng : ∃ p q, allP P (ps.take k) = (p, q) ∧ 0 ≤ p ∧ p < P ∧ 0 ≤ q ∧ q < P ∧ Eng wr E B P Q G p q
  box : Boxed wr g P Q G
  res : Pair wr R 0 0
  bel : Below w.heap.size w wr
  ok : okS P (ps.take k) = true

end Go.Proofs.Ytembepajnigfiaa
