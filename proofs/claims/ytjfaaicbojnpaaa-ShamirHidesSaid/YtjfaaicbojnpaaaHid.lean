/- Fewer shares are consistent with every secret: the plain law. -/
import Derived.Test.YtjfaaicbojnpaaaIntp
import Derived.Test.YtjfaaicbojnpaaaShJ
namespace Go.Proofs.Ytjfaaicbojnpaaa
open Go.RowKit Num
set_option linter.unusedSimpArgs false
set_option linter.unusedVariables false

def insAt {α : Type} (k : Nat) (x : α) (l : List α) : List α := l.take k ++ x :: l.drop k
theorem insAt_len {α : Type} {k : Nat} {x : α} {l : List α} (hk : k ≤ l.length) : (insAt k x l).length = l.length + 1 := by
  simp [insAt]; omega
theorem insAt_map {α β : Type} {k : Nat} {x : α} {l : List α} (f : α → β) : (insAt k x l).map f = insAt k (f x) (l.map f) := by
  simp [insAt, List.map_take, List.map_drop]
theorem mem_insAt {α : Type} {k : Nat} {x y : α} {l : List α} : y ∈ insAt k x l ↔ y = x ∨ y ∈ l := by
  unfold insAt
  rw [List.mem_append, List.mem_cons]
  constructor
  · rintro (h | h | h)
    · exact .inr (List.mem_of_mem_take h)
    · exact .inl h
    · exact .inr (List.mem_of_mem_drop h)
  · rintro (h | h)
    · exact .inr (.inl h)
    · rw [← List.take_append_drop k l, List.mem_append] at h
      rcases h with h | h
      · exact .inl h
      · exact .inr (.inr h)
/-- The points so far: sorted, the chosen ones among them, the first i - 1 of them the first trustees. -/
structure HidI (Q : Int) (t : Nat) (m : Int) (L : Nat) (ss : List Int) (i : Nat) (ps : List (Int × Int)) : Prop where
  srt : ps.Pairwise fun p q => p.1 < q.1
  rng : ∀ p, p ∈ ps → 1 ≤ p.1 ∧ p.1 ≤ t ∧ 0 ≤ p.2 ∧ p.2 < Q
  cho : ∀ j, j < t → bitS m j = true → ((j : Int) + 1, ss.getD j 0) ∈ ps
  low : i ≤ ps.length ∧ ∀ k (h : k < ps.length), k < i → ps[k].1 = (k : Int) + 1
  len : ps.length + 1 ≤ L
section
variable {Q m : Int} {t L i : Nat} {ss : List Int} {ps : List (Int × Int)}
theorem sorted_at (h : ps.Pairwise fun p q => p.1 < q.1) {a b : Nat} (hb : b < ps.length) (hab : a < b) : ps[a].1 < ps[b].1 := List.pairwise_iff_getElem.1 h a b (by omega) hb hab
/-- The next element is not below. -/
theorem HidI.next (h : HidI Q t m L ss i ps) (hi : i < ps.length) : (i : Int) + 1 ≤ ps[i].1 := by
  cases i with
  | zero => have := (h.rng _ (List.getElem_mem hi)).1; simpa using this
  | succ i =>
    have h1 := h.low.2 i (by omega) (by omega)
    have h2 := sorted_at h.srt hi (show i < i + 1 by omega)
    omega
theorem HidI.skip (h : HidI Q t m L ss i ps) (hi : i < ps.length) (he : ps[i].1 = (i : Int) + 1) : HidI Q t m L ss (i + 1) ps :=
  ⟨h.srt, h.rng, h.cho, ⟨by omega, fun k hk hki => by
    by_cases e : k = i
    · subst e; exact he
    · exact h.low.2 k hk (by omega)⟩, h.len⟩
theorem HidI.ins (h : HidI Q t m L ss i ps) (hQ : 0 < Q) (hit : i < t) (hl : ps.length + 1 < L) (hne : ∀ hi : i < ps.length, ps[i].1 ≠ (i : Int) + 1) : HidI Q t m L ss (i + 1) (insAt i ((i : Int) + 1, 0) ps) := by
  have hle := h.low.1
  have hlen := insAt_len (x := ((i : Int) + 1, (0 : Int))) hle
  have hlo : ∀ p, p ∈ ps.take i → p.1 < (i : Int) + 1 := fun p hp => by
    obtain ⟨k, hk, rfl⟩ := List.mem_iff_getElem.1 hp
    have hk2 : k < i := by simp at hk; omega
    rw [List.getElem_take, h.low.2 k (by omega) hk2]
    omega
  have hhi : ∀ p, p ∈ ps.drop i → (i : Int) + 1 < p.1 := fun p hp => by
    obtain ⟨k, hk, rfl⟩ := List.mem_iff_getElem.1 hp
    have hk2 : i + k < ps.length := by simp at hk; omega
    rw [List.getElem_drop]
    have hi : i < ps.length := by omega
    have h1 := h.next hi
    have h2 := hne hi
    cases k with
    | zero => simp only [Nat.add_zero]; omega
    | succ k =>
      have h3 := sorted_at h.srt hk2 (show i < i + (k + 1) by omega)
      omega
  refine ⟨?_, fun p hp => ?_, fun j hj hb => mem_insAt.2 (.inr (h.cho j hj hb)), ⟨by omega, fun k hk hki => ?_⟩, by omega⟩
  · unfold insAt
    rw [List.pairwise_append]
    refine ⟨h.srt.sublist (List.take_sublist _ _), ?_, fun a ha b hb => ?_⟩
    · rw [List.pairwise_cons]
      exact ⟨fun b hb => hhi b hb, h.srt.sublist (List.drop_sublist _ _)⟩
    · have ha' := hlo a ha
      rcases List.mem_cons.1 hb with rfl | hb
      · exact ha'
      · have hb' := hhi b hb
        omega
  · rcases mem_insAt.1 hp with rfl | hp
    · exact ⟨by show (1 : Int) ≤ (i : Int) + 1; omega, by show (i : Int) + 1 ≤ (t : Int); omega, Int.le_refl _, hQ⟩
    · exact h.rng p hp
  · by_cases e : k = i
    · subst e
      simp [insAt, List.getElem_append, Nat.min_eq_left hle]
    · have hk2 : k < i := by omega
      have := h.low.2 k (by omega) hk2
      simp [insAt, List.getElem_append, Nat.min_eq_left hle, hk2, this]
/-- At the end there are just enough. -/
theorem HidI.done (h : HidI Q t m L ss i ps) (hLt : L ≤ t) (hd : t ≤ i ∨ ¬ ps.length + 1 < L) : ps.length + 1 = L := by
  have := h.len
  have := h.low.1
  omega
theorem HidI.start (hQ : 0 < Q) (hs : ss.length = t) (hr : ∀ x, x ∈ ss → 0 ≤ x ∧ x < Q) (hl : (chosenI m t).length + 1 ≤ L) : HidI Q t m L ss 0 (((List.range t).filter (bitS m)).map fun j : Nat => ((j : Int) + 1, ss.getD j 0)) := by
  refine ⟨?_, fun p hp => ?_, fun j hj hb => ?_, ⟨Nat.zero_le _, fun k hk h0 => absurd h0 (by omega)⟩, by simpa [chosenI] using hl⟩
  · rw [List.pairwise_map]
    exact (List.pairwise_lt_range.sublist List.filter_sublist).imp (fun h => by show (_ : Int) < _; omega)
  · obtain ⟨j, hj, rfl⟩ := List.mem_map.1 hp
    have hj2 := List.mem_range.1 (List.mem_filter.1 hj).1
    have := hr (ss.getD j 0) (by rw [getD_at (by omega)]; exact List.getElem_mem _)
    exact ⟨by show (1 : Int) ≤ (j : Int) + 1; omega, by show (j : Int) + 1 ≤ (t : Int); omega, this.1, this.2⟩
  · exact List.mem_map.2 ⟨j, List.mem_filter.2 ⟨List.mem_range.2 hj, hb⟩, rfl⟩
end
theorem incS_pw {Q : Int} : ∀ {last : Int} {ids : List Int}, (last :: ids).Pairwise (· < ·) → (∀ x, x ∈ ids → numS Q x = true) → incS Q last ids = true
  | last, [], _, _ => rfl
  | last, x :: l, h, hn => by
    rw [List.pairwise_cons] at h
    have h1 := h.1 x (by simp)
    have h2 := hn x (by simp)
    have h3 := incS_pw (Q := Q) h.2 (fun y hy => hn y (by simp [hy]))
    simp [incS, h1, h2, h3]
/-- A polynomial through points. -/
theorem point_poly {P Q G : Int} {ids vs : List Int} (hV : Valid P Q G) (hi : listS Q 0 ids = true) (hr : ∀ x, x ∈ ids → 0 ≤ x ∧ x < Q) (hl : vs.length = ids.length) (hb : belowS Q vs = true) :
    ∃ r, interpS P Q G ids vs = (0, r) ∧ r.length = ids.length ∧ (∀ x, x ∈ r → 0 ≤ x ∧ x < Q) ∧ ∀ k, k < ids.length → Cg Q (pv (ids.getD k 0) r) (vs.getD k 0) := by
  have q2 := hV.grp.pQ.1
  have hnd := incS_nodup (listS_true hi).2.2
  have hu : Units Q ids := units_prime hV.2.2.1 hr
  obtain ⟨r, h⟩ : ∃ r, throughS Q ids vs = some r := sumL_ex hu _ _ (fun q hq => (List.of_mem_zip hq).1)
  obtain ⟨h1, h2, h3, -⟩ := through_at (by omega) hnd hl h
  have ht := tail_some h
  refine ⟨r, ?_, h1, h2, h3⟩
  simp only [interpS, hV.1, hi, hl, hb, if_true, decide_true, Bool.and_self]
  exact ht
/-- The points of the end, with the secret ahead: a polynomial. -/
theorem hides {P Q G m sec : Int} {t L i : Nat} {ss : List Int} {ps : List (Int × Int)} (hV : Valid P Q G) (h : HidI Q t m L ss i ps) (t8 : t ≤ 8) (tQ : (t : Int) < Q) (L8 : L ≤ 8) (hL : ps.length + 1 = L) (s0 : 0 ≤ sec) (sQ : sec < Q) :
    ∃ r, interpS P Q G (0 :: ps.map (·.1)) (sec :: ps.map (·.2)) = (0, r) ∧ r.length = L ∧ r.getD 0 0 = sec ∧ belowS Q r = true ∧ (∀ x, x ∈ r → 0 ≤ x ∧ x < Q) ∧ ∀ j, j < t → bitS m j = true → (∀ x, x ∈ ss → 0 ≤ x ∧ x < Q) → j < ss.length → valS Q ((j : Int) + 1) r = ss.getD j 0 := by
  have q2 := hV.grp.pQ.1
  have hnum : ∀ x, x ∈ 0 :: ps.map (·.1) → numS Q x = true := fun x hx => by
    rcases List.mem_cons.1 hx with rfl | hx
    · simp [numS]; omega
    · obtain ⟨p, hp, rfl⟩ := List.mem_map.1 hx
      have := h.rng p hp
      simp [numS]; omega
  have hpw : (-1 :: 0 :: ps.map (·.1)).Pairwise (· < ·) := by
    rw [List.pairwise_cons, List.pairwise_cons]
    refine ⟨fun x hx => ?_, fun x hx => ?_, ?_⟩
    · have := numS_true (hnum x hx); omega
    · obtain ⟨p, hp, rfl⟩ := List.mem_map.1 hx
      have := h.rng p hp; omega
    · rw [List.pairwise_map]; exact h.srt
  have hi : listS Q 0 (0 :: ps.map (·.1)) = true := by
    have := incS_pw hpw hnum
    simp only [listS, Bool.and_eq_true, decide_eq_true_eq, List.length_cons, List.length_map]
    exact ⟨⟨by omega, by omega⟩, this⟩
  have hb : belowS Q (sec :: ps.map (·.2)) = true := by
    simp only [belowS, Bool.and_eq_true, decide_eq_true_eq, okAll, List.all_eq_true, List.length_cons, List.length_map]
    refine ⟨⟨by omega, by omega⟩, fun x hx => ?_⟩
    rcases List.mem_cons.1 hx with rfl | hx
    · exact sQ
    · obtain ⟨p, hp, rfl⟩ := List.mem_map.1 hx
      exact (h.rng p hp).2.2.2
  obtain ⟨r, h1, h2, h3, h4⟩ := point_poly hV hi (fun x hx => by have := numS_true (hnum x hx); omega) (by simp) hb
  have hrl : r.length = L := by rw [h2]; simpa using hL
  have hb2 : belowS Q r = true := by
    simp only [belowS, Bool.and_eq_true, decide_eq_true_eq, okAll, List.all_eq_true]
    exact ⟨⟨by omega, by omega⟩, fun x hx => (h3 x hx).2⟩
  refine ⟨r, h1, hrl, ?_, hb2, h3, fun j hj hbit hss hjl => ?_⟩
  · have h5 := h4 0 (by simp)
    cases r with
    | nil => simp at hrl; omega
    | cons y l =>
      have h6 : pv (0 : Int) (y :: l) = y := by show y + 0 * pv 0 l = y; rw [Int.zero_mul, Int.add_zero]
      simp only [List.getD_cons_zero] at h5 ⊢
      rw [h6] at h5
      exact h5.eq (h3 y (by simp)).1 (h3 y (by simp)).2 s0 sQ
  · obtain ⟨k, hk, he⟩ := List.mem_iff_getElem.1 (h.cho j hj hbit)
    have h5 := h4 (k + 1) (by simp; exact hk)
    simp only [List.getD_cons_succ] at h5
    rw [getD_at (by simpa using hk), getD_at (by simpa using hk), List.getElem_map, List.getElem_map, he] at h5
    have hr := hss (ss.getD j 0) (by rw [getD_at hjl]; exact List.getElem_mem _)
    exact ((cg_emod Q _).trans h5).eq (Int.emod_nonneg _ (by omega)) (Int.emod_lt_of_pos _ (by omega)) hr.1 hr.2
end Go.Proofs.Ytjfaaicbojnpaaa
