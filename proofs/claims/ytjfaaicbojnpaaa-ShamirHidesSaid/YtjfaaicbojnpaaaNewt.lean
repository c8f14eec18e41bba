/- Plain: Newton's divided differences give the interpolation. No program in sight. -/
import Derived.Test.YtjfaaicbojnpaaaLagrB
namespace Go.Proofs.Ytjfaaicbojnpaaa
open Num
set_option linter.unusedSimpArgs false
set_option linter.unusedVariables false

theorem dv_sym (a b : Int) : ∀ p : List Int, pv b (dv a p) = pv a (dv b p)
  | [] => rfl
  | [_] => rfl
  | p0 :: p1 :: l => by
    have ih := dv_sym a b (p1 :: l)
    have h1 := dv_val a b (p1 :: l)
    show pv a (p1 :: l) + b * pv b (dv a (p1 :: l)) = pv b (p1 :: l) + a * pv a (dv b (p1 :: l))
    rw [← ih, h1]
    grind
theorem dv_comm (a b : Int) : ∀ p : List Int, dv a (dv b p) = dv b (dv a p)
  | [] => rfl
  | [_] => rfl
  | [_, _] => rfl
  | p0 :: p1 :: p2 :: l => by
    have ih := dv_comm a b (p1 :: p2 :: l)
    show pv a (dv b (p1 :: p2 :: l)) :: dv a (dv b (p1 :: p2 :: l)) = pv b (dv a (p1 :: p2 :: l)) :: dv b (dv a (p1 :: p2 :: l))
    rw [ih, dv_sym a b]
/-- A polynomial divided by x - a for each a of a list. -/
def dvs (qs p : List Int) : List Int := qs.foldl (fun p a => dv a p) p
theorem dvs_cons (a : Int) (qs p : List Int) : dvs (a :: qs) p = dv a (dvs qs p) := by
  show dvs qs (dv a p) = _
  induction qs generalizing p with
  | nil => rfl
  | cons b qs ih =>
    show dvs qs (dv b (dv a p)) = dv a (dvs qs (dv b p))
    rw [dv_comm, ih]
theorem dvs_snoc (a : Int) (qs p : List Int) : dvs (qs ++ [a]) p = dv a (dvs qs p) := by simp [dvs]
theorem dvs_length : ∀ (qs p : List Int), (dvs qs p).length = p.length - qs.length
  | [], p => by simp [dvs]
  | a :: qs, p => by
    show (dvs qs (dv a p)).length = _
    rw [dvs_length qs, dv_length]; simp; omega
def seg (ids : List Int) (l k : Nat) : List Int := (ids.drop l).take k
theorem seg_cons {ids : List Int} {l k : Nat} (h : l < ids.length) : seg ids l (k + 1) = ids.getD l 0 :: seg ids (l + 1) k := by
  rw [seg, drop_cons h]; rfl
theorem seg_snoc {ids : List Int} {l k : Nat} (h : l + k < ids.length) : seg ids l (k + 1) = seg ids l k ++ [ids.getD (l + k) 0] := by
  have hl : k < (ids.drop l).length := by simp; omega
  rw [seg, List.take_succ_eq_append_getElem hl, seg]
  congr 2
  rw [List.getElem_drop, getD_at h]
/-- The divided difference of order s that ends at j. -/
def cc (ids r : List Int) (s j : Nat) : Int := pv (ids.getD j 0) (dvs (seg ids (j - s) s) r)
theorem cc_step {ids r : List Int} {s i : Nat} (hs : s + 1 ≤ i) (hi : i < ids.length) :
    cc ids r s i - cc ids r s (i - 1) = (ids.getD i 0 - ids.getD (i - (s + 1)) 0) * cc ids r (s + 1) i := by
  have e1 : seg ids (i - (s + 1)) (s + 1) = ids.getD (i - (s + 1)) 0 :: seg ids (i - s) s := by
    rw [seg_cons (by omega), show i - (s + 1) + 1 = i - s by omega]
  have h3 : cc ids r (s + 1) i = pv (ids.getD i 0) (dv (ids.getD (i - (s + 1)) 0) (dvs (seg ids (i - s) s) r)) := by rw [cc, e1, dvs_cons]
  have h2 : cc ids r s (i - 1) = pv (ids.getD (i - (s + 1)) 0) (dvs (seg ids (i - s) s) r) := by
    cases s with
    | zero => simp [cc, seg, dvs]
    | succ t =>
      have e2 : seg ids (i - 1 - (t + 1)) (t + 1) = ids.getD (i - (t + 1 + 1)) 0 :: seg ids (i - (t + 1)) t := by
        rw [show i - 1 - (t + 1) = i - (t + 1 + 1) by omega, seg_cons (by omega), show i - (t + 1 + 1) + 1 = i - (t + 1) by omega]
      have e3 : seg ids (i - (t + 1)) (t + 1) = seg ids (i - (t + 1)) t ++ [ids.getD (i - 1) 0] := by
        rw [seg_snoc (by omega), show i - (t + 1) + t = i - 1 by omega]
      rw [cc, e2, e3, dvs_cons, dvs_snoc, dv_sym]
  rw [h3, h2, cc]
  have h := dv_val (ids.getD (i - (s + 1)) 0) (ids.getD i 0) (dvs (seg ids (i - s) s) r)
  rw [h]
  grind
/-- The pairs that the divided differences have met. -/
def MetAll (Q : Int) (ids : List Int) (k i : Nat) : Prop := ∀ a b, a < b → b < ids.length → (b - a < k ∨ (b - a = k ∧ i < b)) → ∃ u, invF Q ((ids.getD b 0 - ids.getD a 0) % Q) = some u
theorem MetAll.start (Q : Int) (ids : List Int) : MetAll Q ids 1 (ids.length - 1) := fun a b h1 h2 h3 => by omega
theorem MetAll.next {Q : Int} {ids : List Int} {k : Nat} (h : MetAll Q ids k (k - 1)) : MetAll Q ids (k + 1) (ids.length - 1) := fun a b h1 h2 h3 => h a b h1 h2 (by omega)
theorem MetAll.step {Q : Int} {ids : List Int} {k i : Nat} (h : MetAll Q ids k i) (hk : k ≤ i) (hk1 : 1 ≤ k) {u : Int} (hu : invF Q ((ids.getD i 0 - ids.getD (i - k) 0) % Q) = some u) : MetAll Q ids k (i - 1) := fun a b h1 h2 h3 => by
  by_cases e : b = i ∧ b - a = k
  · obtain ⟨rfl, he⟩ := e
    rw [show a = b - k by omega]
    exact ⟨u, hu⟩
  · exact h a b h1 h2 (by omega)
theorem MetAll.units {Q : Int} {ids : List Int} (hQ : 0 < Q) {k : Nat} (h : MetAll Q ids k (ids.length - 1)) (hk : ids.length ≤ k) : Units Q ids := fun x hx y hy hne => by
  obtain ⟨i, hi, rfl⟩ := List.mem_iff_getElem.1 hx
  obtain ⟨j, hj, rfl⟩ := List.mem_iff_getElem.1 hy
  rcases Nat.lt_trichotomy i j with h1 | h1 | h1
  · obtain ⟨u, hu⟩ := h i j h1 hj (by omega)
    rw [getD_at hi, getD_at hj] at hu
    obtain ⟨v, hv, -⟩ := inv_neg hQ hu
    exact ⟨v, hv⟩
  · subst h1; exact absurd rfl hne
  · obtain ⟨u, hu⟩ := h j i h1 hi (by omega)
    rw [getD_at hi, getD_at hj] at hu
    exact ⟨u, hu⟩
theorem partL_all {Q xi : Int} : ∀ {l p r : List Int}, partL Q xi p l = some r → ∀ y, y ∈ l → ∃ u, invF Q ((xi - y) % Q) = some u
  | y :: l, p, r, h, z, hz => by
    simp only [partL] at h
    split at h
    · cases h
    · rename_i u hu
      rcases List.mem_cons.1 hz with rfl | hz
      · exact ⟨u, hu⟩
      · exact partL_all h z hz
theorem through_units {Q : Int} {ids vs r : List Int} (hQ : 0 < Q) (hnd : ids.Nodup) (hl : vs.length = ids.length) (h : throughS Q ids vs = some r) : Units Q ids := fun x hx y hy hne => by
  obtain ⟨-, -, -, h4⟩ := sumL_spec hQ hnd h (by simp) (fun x hx => by rw [List.mem_replicate] at hx; rw [hx.2]; exact ⟨Int.le_refl _, hQ⟩) (fun q hq => (List.of_mem_zip hq).1)
  obtain ⟨k, hk, rfl⟩ := List.mem_iff_getElem.1 hx
  have hz : k < (ids.zip vs).length := by simp; omega
  have hm := List.getElem_mem hz
  rw [List.getElem_zip] at hm
  obtain ⟨p, hp⟩ := h4 _ hm
  exact partL_all hp y (by rw [List.mem_filter]; exact ⟨hy, by simpa using fun e : y = ids[k] => hne e.symm⟩)
theorem through_none {Q : Int} {ids vs : List Int} (hQ : 0 < Q) (hnd : ids.Nodup) (hl : vs.length = ids.length) {i j : Nat} (hi : i < ids.length) (hj : j < ids.length) (hij : i ≠ j) (h : invF Q ((ids.getD i 0 - ids.getD j 0) % Q) = none) : throughS Q ids vs = none := by
  cases hr : throughS Q ids vs with
  | none => rfl
  | some r =>
    obtain ⟨u, hu⟩ := through_units hQ hnd hl hr ids[i] (List.getElem_mem hi) ids[j] (List.getElem_mem hj) (fun e => hij (nodup_inj hnd hi hj e))
    rw [getD_at hi, getD_at hj, hu] at h
    cases h
/-- What the differences hold in round (k, i). -/
structure DifS (Q : Int) (ids vs : List Int) (k i : Nat) (c : List Int) : Prop where
  len : c.length = ids.length
  rng : ∀ x, x ∈ c → 0 ≤ x ∧ x < Q
  met : MetAll Q ids k i
  val : ∀ r, throughS Q ids vs = some r → ∀ j, j < ids.length → Cg Q (c.getD j 0) (cc ids r (if i < j then min k j else min (k - 1) j) j)
theorem DifS.start {Q : Int} {ids vs : List Int} (hQ : 0 < Q) (hnd : ids.Nodup) (hl : vs.length = ids.length) (hr : ∀ x, x ∈ vs → 0 ≤ x ∧ x < Q) : DifS Q ids vs 1 (ids.length - 1) vs :=
  ⟨hl, hr, MetAll.start Q ids, fun r h j hj => by
    rw [if_neg (by omega), show min (1 - 1) j = 0 by omega]
    have := (through_at hQ hnd hl h).2.2.1 j hj
    exact this.symm.trans (Cg.of_eq (by simp [cc, seg, dvs]))⟩
theorem DifS.next {Q : Int} {ids vs c : List Int} {k : Nat} (hk : 1 ≤ k) (h : DifS Q ids vs k (k - 1) c) : DifS Q ids vs (k + 1) (ids.length - 1) c :=
  ⟨h.len, h.rng, h.met.next, fun r hr j hj => by
    have := h.val r hr j hj
    rw [if_neg (by omega), show min (k + 1 - 1) j = min k j by omega]
    by_cases e : k - 1 < j
    · rw [if_pos e] at this; exact this
    · rw [if_neg e, show min (k - 1) j = min k j by omega] at this; exact this⟩
theorem getD_set {l : List Int} {i j : Nat} {v : Int} (hi : i < l.length) : (l.set i v).getD j 0 = if i = j then v else l.getD j 0 := by
  rw [List.getD_eq_getElem?_getD, List.getElem?_set]
  split
  · rename_i e; subst e; simp [hi]
  · rw [List.getD_eq_getElem?_getD]
theorem mem_set {l : List Int} {i : Nat} {v x : Int} (h : x ∈ l.set i v) : x ∈ l ∨ x = v := by
  rcases List.mem_or_eq_of_mem_set h with h | h
  · exact .inl h
  · exact .inr h
theorem DifS.step {Q : Int} {ids vs c : List Int} {k i : Nat} {u : Int} (hQ : 0 < Q) (hk1 : 1 ≤ k) (hki : k ≤ i) (hi : i < ids.length) (h : DifS Q ids vs k i c) (hu : invF Q ((ids.getD i 0 - ids.getD (i - k) 0) % Q) = some u) :
    DifS Q ids vs k (i - 1) (c.set i ((c.getD i 0 - c.getD (i - 1) 0) % Q * u % Q)) := by
  refine ⟨by rw [List.length_set]; exact h.len, fun x hx => ?_, h.met.step hki hk1 hu, fun r hr j hj => ?_⟩
  · rcases mem_set hx with hx | rfl
    · exact h.rng x hx
    · exact ⟨Int.emod_nonneg _ (by omega), Int.emod_lt_of_pos _ hQ⟩
  · rw [getD_set (by rw [h.len]; exact hi)]
    by_cases e : i = j
    · subst e
      rw [if_pos rfl, if_pos (by omega), show min k i = (k - 1) + 1 by omega]
      have h1 := h.val r hr i hi
      have h2 := h.val r hr (i - 1) (by omega)
      rw [if_neg (by omega), show min (k - 1) i = k - 1 by omega] at h1
      rw [if_neg (by omega), show min (k - 1) (i - 1) = k - 1 by omega] at h2
      have h3 : Cg Q ((c.getD i 0 - c.getD (i - 1) 0) % Q * u % Q) ((cc ids r (k - 1) i - cc ids r (k - 1) (i - 1)) * u) :=
        (cg_emod _ _).trans (((cg_emod _ _).trans (h1.sub h2)).mul_right u)
      rw [cc_step (by omega) hi, show k - 1 + 1 = k by omega] at h3
      have h4 : Cg Q ((ids.getD i 0 - ids.getD (i - k) 0) * u) 1 := ((cg_emod Q (ids.getD i 0 - ids.getD (i - k) 0)).symm.mul_right u).trans (invF_some hu).2.2
      rw [show k - 1 + 1 = k by omega]
      refine h3.trans ((Cg.of_eq ?_).trans ((h4.mul_left (cc ids r k i)).trans (Cg.of_eq (Int.mul_one _))))
      grind
    · rw [if_neg e]
      have := h.val r hr j hj
      by_cases e1 : i < j
      · rw [if_pos (by omega)]; rw [if_pos e1] at this; exact this
      · rw [if_neg (by omega)]; rw [if_neg e1] at this; exact this
/-- What the sum holds when numbers down to i are over. -/
def OutS (Q : Int) (ids r : List Int) (i : Nat) (out : List Int) : Prop :=
  out.length = ids.length ∧ (∀ x, x ∈ out → 0 ≤ x ∧ x < Q) ∧ ∀ j, Cg Q (out.getD j 0) ((dvs (seg ids 0 i) r).getD j 0)
/-- One number more: the new coefficients. -/
theorem out_step {Q : Int} {ids r out : List Int} {i : Nat} (hi : i < ids.length) (hrl : r.length = ids.length) (h : OutS Q ids r (i + 1) out) (j : Nat) :
    Cg Q (if j = 0 then cc ids r i i - out.getD 0 0 * ids.getD i 0 else out.getD (j - 1) 0 - out.getD j 0 * ids.getD i 0) ((dvs (seg ids 0 i) r).getD j 0) := by
  have e : seg ids 0 (i + 1) = seg ids 0 i ++ [ids.getD i 0] := by rw [seg_snoc (by omega), Nat.zero_add]
  have hd : ∀ j, Cg Q (out.getD j 0) ((dv (ids.getD i 0) (dvs (seg ids 0 i) r)).getD j 0) := fun j => by
    have := h.2.2 j
    rw [e, dvs_snoc] at this; exact this
  have hne : 0 < (dvs (seg ids 0 i) r).length := by rw [dvs_length]; simp [seg]; omega
  have hc : cc ids r i i = pv (ids.getD i 0) (dvs (seg ids 0 i) r) := by rw [cc, Nat.sub_self]
  rw [hc]
  generalize dvs (seg ids 0 i) r = g at hd hne
  generalize ids.getD i 0 = a at hd ⊢
  have key : ∀ (g : List Int), 0 < g.length → ∀ j, g.getD j 0 = if j = 0 then pv a g - (dv a g).getD 0 0 * a else (dv a g).getD (j - 1) 0 - (dv a g).getD j 0 * a := by
    intro g
    induction g with
    | nil => intro h; simp at h
    | cons p0 l ih =>
      intro _ j
      cases l with
      | nil =>
        cases j with
        | zero => simp [pv, dv]
        | succ j => simp [dv]
      | cons p1 l =>
        have ih := ih (by simp)
        cases j with
        | zero =>
          simp only [if_true, List.getD_cons_zero]
          show p0 = p0 + a * pv a (p1 :: l) - pv a (p1 :: l) * a
          grind
        | succ j =>
          rw [if_neg (by omega), List.getD_cons_succ, ih j]
          show _ = (pv a (p1 :: l) :: dv a (p1 :: l)).getD (j + 1 - 1) 0 - (pv a (p1 :: l) :: dv a (p1 :: l)).getD (j + 1) 0 * a
          cases j with
          | zero => simp
          | succ j => simp
  rw [key g hne j]
  split
  · exact (Cg.refl _ _).sub ((hd 0).mul_right a)
  · exact (hd (j - 1)).sub ((hd j).mul_right a)
end Go.Proofs.Ytjfaaicbojnpaaa
