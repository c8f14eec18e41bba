/- The plain laws of sums of ciphertexts: order and grouping do not matter. -/
import Derived.Test.YtffefhldfnfohaaSumE
namespace Go.Proofs.Ytffefhldfnfohaa
open Num
set_option linter.unusedSimpArgs false
set_option linter.unusedVariables false

theorem fold_plus {P : Int} (hP : 1 < P) : ∀ (ps : List (Int × Int)) (a b : Int), 0 ≤ a → a < P → 0 ≤ b → b < P → ps.foldl (plusP P) (a, b) = (a * prodI (ps.map Prod.fst) % P, b * prodI (ps.map Prod.snd) % P)
  | [], a, b, a0, aP, b0, bP => by
    simp [prodI, Int.emod_eq_of_lt a0 aP, Int.emod_eq_of_lt b0 bP]
  | p :: ps, a, b, a0, aP, b0, bP => by
    have h := fold_plus hP ps (a * p.1 % P) (b * p.2 % P) (Int.emod_nonneg _ (by omega)) (Int.emod_lt_of_pos _ (by omega)) (Int.emod_nonneg _ (by omega)) (Int.emod_lt_of_pos _ (by omega))
    simp only [List.foldl_cons, List.map_cons, prodI]
    rw [show plusP P (a, b) p = (a * p.1 % P, b * p.2 % P) from rfl, h]
    have e : ∀ x y z : Int, x * y % P * z % P = x * (y * z) % P := fun x y z => by
      rw [← Int.mul_assoc]
      exact (Cg.mul_right z (cg_emod P (x * y))).emod_eq
    rw [e, e]
theorem allP_eq {P : Int} (hP : 1 < P) (ps : List (Int × Int)) : allP P ps = (prodI (ps.map Prod.fst) % P, prodI (ps.map Prod.snd) % P) := by
  rw [allP, fold_plus hP ps 1 1 (by omega) hP (by omega) hP]; simp
theorem allP_perm {P : Int} (hP : 1 < P) {ps qs : List (Int × Int)} (h : ps.Perm qs) : allP P ps = allP P qs := by
  rw [allP_eq hP, allP_eq hP, prodI_perm (h.map _), prodI_perm (h.map _)]
theorem prodI_append (l m : List Int) : prodI (l ++ m) = prodI l * prodI m := by
  induction l with
  | nil => simp [prodI]
  | cons x xs ih => simp [prodI, ih, Int.mul_assoc]
theorem allP_append {P : Int} (hP : 1 < P) (ps qs : List (Int × Int)) : allP P (ps ++ qs) = plusP P (allP P ps) (allP P qs) := by
  rw [allP_eq hP, allP_eq hP ps, allP_eq hP qs, plusP, List.map_append, List.map_append, prodI_append, prodI_append]
  simp only
  rw [← Int.mul_emod, ← Int.mul_emod]
theorem okS_perm {P : Int} {ps qs : List (Int × Int)} (h : ps.Perm qs) : okS P ps = okS P qs := by
  rw [Bool.eq_iff_iff, okS, okS, List.all_eq_true, List.all_eq_true]
  exact ⟨fun k p hp => k p (h.mem_iff.2 hp), fun k p hp => k p (h.mem_iff.1 hp)⟩
theorem okS_append {P : Int} (ps qs : List (Int × Int)) : okS P (ps ++ qs) = (okS P ps && okS P qs) := by simp [okS]
theorem allP_range {P : Int} (hP : 1 < P) (ps : List (Int × Int)) : 0 ≤ (allP P ps).1 ∧ (allP P ps).1 < P ∧ 0 ≤ (allP P ps).2 ∧ (allP P ps).2 < P := by
  rw [allP_eq hP]
  exact ⟨Int.emod_nonneg _ (by omega), Int.emod_lt_of_pos _ (by omega), Int.emod_nonneg _ (by omega), Int.emod_lt_of_pos _ (by omega)⟩
/-- A list turned round has the same sum. -/
theorem SumS.perm {P Q G x y e : Int} {ps qs : List (Int × Int)} (h : ps.Perm qs) (hs : SumS P Q G ps x y e) : SumS P Q G qs x y e := by
  rcases hs with h1 | ⟨hH, hn, h2⟩ | ⟨hH, hn, ho, h2⟩ | ⟨hH, hn, ho, hv, he⟩
  · exact .inl h1
  · exact .inr (.inl ⟨hH, by rw [← h.length_eq]; exact hn, h2⟩)
  · exact .inr (.inr (.inl ⟨hH, by rw [← h.length_eq]; exact hn, by rw [← okS_perm h]; exact ho, h2⟩))
  · exact .inr (.inr (.inr ⟨hH, by rw [← h.length_eq]; exact hn, by rw [← okS_perm h]; exact ho, by rw [← allP_perm (by have := hH.1; omega) h]; exact hv, he⟩))
end Go.Proofs.Ytffefhldfnfohaa
