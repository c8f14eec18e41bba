/- Plain: weights and interpolation. No program in sight. -/
import Derived.Test.YtjfaaicbojnpaaaLagr
import Derived.Test.YtjfaaicbojnpaaaShF
namespace Go.Proofs.Ytjfaaicbojnpaaa
open Num

theorem inv_neg {Q a b u : Int} (hQ : 0 < Q) (h : invF Q ((a - b) % Q) = some u) : ∃ v, invF Q ((b - a) % Q) = some v ∧ Cg Q v (-u) := by
  have hu := invF_some h
  refine ⟨(-u) % Q, invF_of ⟨Int.emod_nonneg _ (by omega), Int.emod_lt_of_pos _ hQ, ?_⟩, cg_emod _ _⟩
  have h1 : Cg Q ((b - a) % Q * ((-u) % Q)) ((b - a) * (-u)) := (cg_emod _ _).mul (cg_emod _ _)
  have h2 : Cg Q ((a - b) * u) 1 := ((cg_emod Q (a - b)).symm.mul_right u).trans hu.2.2
  exact h1.trans ((Cg.of_eq (by grind)).trans h2)
/-- All differences of a list can be inverted. -/
def Units (Q : Int) (ids : List Int) : Prop := ∀ x, x ∈ ids → ∀ y, y ∈ ids → x ≠ y → ∃ u, invF Q ((x - y) % Q) = some u
theorem units_prime {Q : Int} (hQ : Pr Q) {ids : List Int} (hr : ∀ x, x ∈ ids → 0 ≤ x ∧ x < Q) : Units Q ids := fun x hx y hy hne => by
  have q2 := hQ.1
  have a := hr x hx
  have b := hr y hy
  have hnd : ¬ Q ∣ (x - y) % Q := by
    refine hQ.not_dvd ?_ (Int.emod_lt_of_pos _ (by omega))
    have h0 := Int.emod_nonneg (x - y) (show Q ≠ 0 by omega)
    rcases Int.lt_or_eq_of_le h0 with h | h
    · exact h
    · exfalso
      have hc : Cg Q x y := Int.dvd_of_emod_eq_zero h.symm
      exact hne (hc.eq a.1 a.2 b.1 b.2)
  obtain ⟨u, hu⟩ := hQ.inv hnd
  exact ⟨u, invF_of hu⟩
theorem units_apart {Q : Int} {ids : List Int} (hnd : ids.Nodup) (h : Units Q ids) : Apart Q ids := by
  refine List.Pairwise.imp_of_mem ?_ hnd
  intro x y hx hy hne
  obtain ⟨u, hu⟩ := h y hy x hx (fun e => hne e.symm)
  exact ⟨u, ((cg_emod Q (y - x)).symm.mul_right u).trans (invF_some hu).2.2⟩
theorem wOneL_ex {Q i : Int} : ∀ (l : List Int) (w : Int), (∀ j, j ∈ l → ∃ u, invF Q ((j - i) % Q) = some u) → ∃ v, wOneL Q i w l = some v
  | [], w, _ => ⟨w, rfl⟩
  | j :: l, w, h => by
    obtain ⟨u, hu⟩ := h j (by simp)
    simp only [wOneL, hu]
    exact wOneL_ex l _ (fun j hj => h j (by simp [hj]))
theorem wOneL_all {Q i : Int} : ∀ {l : List Int} {w v : Int}, wOneL Q i w l = some v → ∀ j, j ∈ l → ∃ u, invF Q ((j - i) % Q) = some u
  | j :: l, w, v, h, k, hk => by
    simp only [wOneL] at h
    split at h
    · cases h
    · rename_i u hu
      rcases List.mem_cons.1 hk with rfl | hk
      · exact ⟨u, hu⟩
      · exact wOneL_all h k hk
theorem partL_ex {Q xi : Int} : ∀ (l p : List Int), (∀ y, y ∈ l → ∃ u, invF Q ((xi - y) % Q) = some u) → ∃ r, partL Q xi p l = some r
  | [], p, _ => ⟨p, rfl⟩
  | y :: l, p, h => by
    obtain ⟨u, hu⟩ := h y (by simp)
    simp only [partL, hu]
    exact partL_ex l _ (fun y hy => h y (by simp [hy]))
theorem mem_others {ids : List Int} {x y : Int} (h : y ∈ ids.filter fun z => decide (z ≠ x)) : y ∈ ids ∧ y ≠ x := by
  rw [List.mem_filter] at h
  exact ⟨h.1, by simpa using h.2⟩
theorem wAll_ex {Q : Int} {ids : List Int} (h : Units Q ids) : ∀ l : List Int, (∀ x, x ∈ l → x ∈ ids) → ∃ ws, wAll Q ids l = some ws
  | [], _ => ⟨[], rfl⟩
  | i :: l, hm => by
    obtain ⟨v, hv⟩ := wOneL_ex (Q := Q) (i := i) (ids.filter fun j => decide (j ≠ i)) 1 (fun j hj => h j (mem_others hj).1 i (hm i (by simp)) (mem_others hj).2)
    obtain ⟨ws, hw⟩ := wAll_ex h l (fun x hx => hm x (by simp [hx]))
    exact ⟨v :: ws, by simp only [wAll]; rw [show wOne Q ids i = some v from hv, hw]⟩
theorem wAll_units {Q : Int} {ids : List Int} : ∀ {l ws : List Int}, wAll Q ids l = some ws → ∀ x, x ∈ l → ∀ y, y ∈ ids → y ≠ x → ∃ u, invF Q ((y - x) % Q) = some u
  | i :: l, ws, h, x, hx, y, hy, hne => by
    simp only [wAll] at h
    split at h
    · rename_i w ws' h1 h2
      rcases List.mem_cons.1 hx with rfl | hx
      · exact wOneL_all h1 y (by rw [List.mem_filter]; exact ⟨hy, by simpa using hne⟩)
      · exact wAll_units h2 x hx y hy hne
    · cases h
theorem units_of_wAll {Q : Int} {ids ws : List Int} (h : wAll Q ids ids = some ws) : Units Q ids := fun x hx y hy hne => wAll_units h y hy x hx hne
theorem sumL_ex {Q : Int} {ids : List Int} (h : Units Q ids) : ∀ (l : List (Int × Int)) (out : List Int), (∀ q, q ∈ l → q.1 ∈ ids) → ∃ r, sumL Q ids out l = some r
  | [], out, _ => ⟨out, rfl⟩
  | (xi, v) :: l, out, hm => by
    obtain ⟨p, hp⟩ := partL_ex (Q := Q) (xi := xi) (ids.filter fun y => decide (y ≠ xi)) [v] (fun y hy => h xi (hm (xi, v) (by simp)) y (mem_others hy).1 (fun e => (mem_others hy).2 e.symm))
    obtain ⟨r, hr⟩ := sumL_ex h l (List.zipWith (fun a b => (a + b) % Q) out p) (fun q hq => hm q (by simp [hq]))
    exact ⟨r, by simp only [sumL, hp]; exact hr⟩
/-- The weight of a number is its factor at 0. -/
theorem wOne_fac {Q xi : Int} (hQ : 0 < Q) : ∀ {l : List Int} {w v : Int}, wOneL Q xi w l = some v → Cg Q v (w * facL Q xi 0 l)
  | [], w, v, h => by cases h; exact Cg.of_eq (by simp [facL])
  | y :: l, w, v, h => by
    simp only [wOneL] at h
    split at h
    · cases h
    · rename_i u hu
      obtain ⟨u', hu', hc⟩ := inv_neg hQ hu
      have ih := wOne_fac hQ h
      refine ih.trans ?_
      simp only [facL, hu', Option.getD_some]
      have h1 : Cg Q (w * (y * u % Q) % Q) (w * (y * u)) := (cg_emod _ _).trans ((cg_emod _ _).mul_left w)
      have h2 : Cg Q ((0 - y) * u') (y * u) := (hc.mul_left (0 - y)).trans (Cg.of_eq (by grind))
      have h3 : Cg Q (w * (y * u) * facL Q xi 0 l) (w * ((0 - y) * u') * facL Q xi 0 l) := (h2.symm.mul_left w).mul_right _
      exact (h1.mul_right _).trans (h3.trans (Cg.of_eq (by grind)))
theorem sumV_append (Q x : Int) (ids : List Int) : ∀ l m : List (Int × Int), sumV Q x ids (l ++ m) = sumV Q x ids l + sumV Q x ids m
  | [], m => by simp [sumV]
  | (a, b) :: l, m => by
    show b * _ + sumV Q x ids (l ++ m) = b * _ + sumV Q x ids l + sumV Q x ids m
    rw [sumV_append Q x ids l m]; grind
theorem wAll_get {Q : Int} {ids : List Int} : ∀ {l ws : List Int} {k : Nat}, wAll Q ids l = some ws → k < l.length → wOne Q ids (l.getD k 0) = some (ws.getD k 0)
  | i :: l, ws, k, h, hk => by
    simp only [wAll] at h
    split at h
    · rename_i w ws' h1 h2
      cases h
      cases k with
      | zero => simpa using h1
      | succ k => simpa using wAll_get h2 (by simpa using hk)
    · cases h
theorem join_sum {Q : Int} (hQ : 0 < Q) {ids ws vs : List Int} (hw : wAll Q ids ids = some ws) (hl : vs.length = ids.length) : ∀ k, k ≤ ids.length → Cg Q (joinP Q ws vs k) (sumV Q 0 ids ((ids.zip vs).take k))
  | 0, _ => Cg.of_eq (by simp [joinP, sumV])
  | k + 1, hk => by
    have ih := join_sum hQ hw hl k (by omega)
    have hz : k < (ids.zip vs).length := by simp; omega
    rw [List.take_succ_eq_append_getElem hz, sumV_append]
    have e : (ids.zip vs)[k] = (ids.getD k 0, vs.getD k 0) := by
      rw [List.getElem_zip, getD_at (by omega), getD_at (by omega)]
    rw [e]
    show Cg Q ((joinP Q ws vs k + ws.getD k 0 * vs.getD k 0 % Q) % Q) (_ + (vs.getD k 0 * facL Q (ids.getD k 0) 0 (ids.filter fun y => decide (y ≠ ids.getD k 0)) + 0))
    have hw1 := wOne_fac hQ (wAll_get hw (show k < ids.length by omega))
    refine (cg_emod _ _).trans (ih.add ((cg_emod _ _).trans ?_))
    exact (hw1.mul_right _).trans (Cg.of_eq (by grind))
theorem zip_fst {ids vs : List Int} (h : vs.length = ids.length) : (ids.zip vs).map (fun q => q.1) = ids := by
  induction ids generalizing vs with
  | nil => simp
  | cons a l ih =>
    cases vs with
    | nil => simp at h
    | cons b m => simp only [List.zip_cons_cons, List.map_cons]; rw [ih (by simpa using h)]
/-- The interpolation goes through its points. -/
theorem through_at {Q : Int} {ids vs r : List Int} (hQ : 0 < Q) (hnd : ids.Nodup) (hl : vs.length = ids.length) (h : throughS Q ids vs = some r) :
    r.length = ids.length ∧ (∀ x, x ∈ r → 0 ≤ x ∧ x < Q) ∧ (∀ k, k < ids.length → Cg Q (pv (ids.getD k 0) r) (vs.getD k 0)) ∧ Cg Q (pv 0 r) (sumV Q 0 ids (ids.zip vs)) := by
  obtain ⟨h1, h2, h3, h4⟩ := sumL_spec hQ hnd h (by simp) (fun x hx => by rw [List.mem_replicate] at hx; rw [hx.2]; exact ⟨Int.le_refl _, hQ⟩) (fun q hq => (List.of_mem_zip hq).1)
  have hz : ∀ x n, pv x (List.replicate n 0) = 0 := fun x n => by
    induction n with
    | zero => rfl
    | succ n ih => show 0 + x * pv x (List.replicate n 0) = 0; rw [ih]; simp
  refine ⟨h1, h2, fun k hk => ?_, ?_⟩
  · refine (h3 _).trans ?_
    rw [hz, Int.zero_add]
    have hz : k < (ids.zip vs).length := by simp; omega
    have e : (ids.zip vs)[k] = (ids.getD k 0, vs.getD k 0) := by
      rw [List.getElem_zip, getD_at (by omega), getD_at (by omega)]
    have hm : (ids.getD k 0, vs.getD k 0) ∈ ids.zip vs := by rw [← e]; exact List.getElem_mem hz
    exact sumV_at (List.of_mem_zip hm).1 (by rw [zip_fst hl]; exact hnd) hm (h4 _ hm)
  · refine (h3 0).trans ?_
    rw [hz, Int.zero_add]
    exact Cg.refl _ _
/-- A polynomial, made longer by zeros. -/
def padded (n : Nat) (xs : List Int) : List Int := xs ++ List.replicate (n - xs.length) 0
theorem pv_padded (x : Int) (n : Nat) (xs : List Int) : pv x (padded n xs) = pv x xs := by
  have hz : ∀ n, pv x (List.replicate n 0) = 0 := fun n => by
    induction n with
    | zero => rfl
    | succ n ih => show 0 + x * pv x (List.replicate n 0) = 0; rw [ih]; simp
  rw [padded, pv_append, hz]; simp
theorem padded_length {n : Nat} {xs : List Int} (h : xs.length ≤ n) : (padded n xs).length = n := by simp [padded]; omega
theorem Cg.pv0 {Q : Int} {p q : List Int} (hl : p.length = q.length) (h : ∀ k, k < p.length → Cg Q (p.getD k 0) (q.getD k 0)) : Cg Q (pv 0 p) (pv 0 q) := by
  cases p with
  | nil => cases q with
    | nil => exact Cg.refl _ _
    | cons b q => simp at hl
  | cons a p => cases q with
    | nil => simp at hl
    | cons b q =>
      have := h 0 (by simp)
      simp at this
      show Cg Q (a + 0 * _) (b + 0 * _)
      simpa using this
/-- Joining the values of a polynomial gives its value at 0. -/
theorem join_val {Q : Int} {ids xs vs ws : List Int} (hQ : 0 < Q) (hnd : ids.Nodup) (hu : Units Q ids) (hl : vs.length = ids.length) (hlx : xs.length ≤ ids.length) (hv : ∀ k, k < ids.length → vs.getD k 0 = valS Q (ids.getD k 0) xs) (hw : wAll Q ids ids = some ws) : joinP Q ws vs vs.length = valS Q 0 xs := by
  obtain ⟨r, hr⟩ : ∃ r, throughS Q ids vs = some r := sumL_ex hu _ _ (fun q hq => (List.of_mem_zip hq).1)
  obtain ⟨h1, h2, h3, h4⟩ := through_at hQ hnd hl hr
  have h5 := join_sum hQ hw hl ids.length (Nat.le_refl _)
  rw [List.take_of_length_le (by simp; omega)] at h5
  have hpl := padded_length hlx
  have h6 := uniq (p := r) (q := padded ids.length xs) (by omega) (by omega) (units_apart hnd hu) (fun a ha => by
    obtain ⟨k, hk, rfl⟩ := List.mem_iff_getElem.1 ha
    have := h3 k hk
    rw [getD_at hk, hv k hk, getD_at hk] at this
    rw [pv_padded]
    exact this.trans (valS_cg Q _ xs))
  have h7 : Cg Q (pv 0 r) (pv 0 xs) := (Cg.pv0 (by omega) h6).trans (Cg.of_eq (pv_padded 0 _ xs))
  have h8 : Cg Q (joinP Q ws vs vs.length) (valS Q 0 xs) := by
    rw [hl]
    exact (h5.trans h4.symm).trans (h7.trans (valS_cg Q 0 xs).symm)
  exact h8.eq (joinP_range hQ ws vs _).1 (joinP_range hQ ws vs _).2 (valS_range 0 hQ xs).1 (valS_range 0 hQ xs).2
end Go.Proofs.Ytjfaaicbojnpaaa
