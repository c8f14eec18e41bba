/- Plain: Lagrange's interpolation over the numbers below Q, as the reference computes it. No program in sight. -/
import Derived.Test.YtjfaaicbojnpaaaWgt
namespace Go.Proofs.Ytjfaaicbojnpaaa.Num

/-- A polynomial divided by x - a. -/
def dv (a : Int) : List Int → List Int
  | [] => []
  | [_] => []
  | _ :: p1 :: l => pv a (p1 :: l) :: dv a (p1 :: l)
theorem dv_length (a : Int) : ∀ p : List Int, (dv a p).length = p.length - 1
  | [] => rfl
  | [_] => rfl
  | _ :: p1 :: l => by
    show (dv a (p1 :: l)).length + 1 = _
    rw [dv_length a (p1 :: l)]
    simp
theorem dv_val (a x : Int) : ∀ p : List Int, pv x p = pv a p + (x - a) * pv x (dv a p)
  | [] => by simp [pv, dv]
  | [p0] => by simp [pv, dv]
  | p0 :: p1 :: l => by
    have ih := dv_val a x (p1 :: l)
    show p0 + x * pv x (p1 :: l) = p0 + a * pv a (p1 :: l) + (x - a) * (pv a (p1 :: l) + x * pv x (dv a (p1 :: l)))
    rw [ih]
    grind
theorem zero_of_dv {Q a : Int} : ∀ p : List Int, Cg Q (pv a p) 0 → (∀ c, c ∈ dv a p → Cg Q c 0) → ∀ c, c ∈ p → Cg Q c 0
  | [], _, _, c, hc => by cases hc
  | [p0], h, _, c, hc => by
    rw [List.mem_singleton] at hc
    subst hc
    simpa [pv] using h
  | p0 :: p1 :: l, h, hd, c, hc => by
    have hA : Cg Q (pv a (p1 :: l)) 0 := hd _ (by simp [dv])
    rcases List.mem_cons.1 hc with rfl | hc
    · have h2 : Cg Q (c + a * pv a (p1 :: l) - a * pv a (p1 :: l)) (0 - a * 0) := h.sub (hA.mul_left a)
      simpa using h2
    · exact zero_of_dv (p1 :: l) hA (fun c hc => hd c (by simp [dv, hc])) c hc
/-- Numbers whose differences can be inverted. -/
def Apart (Q : Int) (as : List Int) : Prop := as.Pairwise fun x y => ∃ u, Cg Q ((y - x) * u) 1
theorem zero_of_roots {Q : Int} : ∀ (as p : List Int), p.length ≤ as.length → Apart Q as → (∀ a, a ∈ as → Cg Q (pv a p) 0) → ∀ c, c ∈ p → Cg Q c 0
  | [], p, hl, _, _, c, hc => by
    have hp : p = [] := List.eq_nil_of_length_eq_zero (by simpa using hl)
    rw [hp] at hc; cases hc
  | a :: as, p, hl, hap, hr, c, hc => by
    have hp := List.pairwise_cons.1 hap
    have ha := hr a (by simp)
    refine zero_of_dv p ha ?_ c hc
    refine zero_of_roots as (dv a p) (by rw [dv_length]; simp at hl; omega) hp.2 ?_
    intro b hb
    obtain ⟨u, hu⟩ := hp.1 b hb
    have hb0 := hr b (by simp [hb])
    have h1 : Cg Q ((b - a) * pv b (dv a p)) 0 := by
      have h2 : Cg Q (pv b p - pv a p) (0 - 0) := hb0.sub ha
      have e := dv_val a b p
      have e2 : pv b p - pv a p = (b - a) * pv b (dv a p) := by rw [e]; grind
      rw [e2] at h2
      simpa using h2
    have h2 : Cg Q (pv b (dv a p) * ((b - a) * u)) (pv b (dv a p) * 1) := hu.mul_left _
    have h3 : Cg Q ((b - a) * pv b (dv a p) * u) (0 * u) := h1.mul_right u
    have e3 : pv b (dv a p) * ((b - a) * u) = (b - a) * pv b (dv a p) * u := by grind
    rw [e3] at h2
    have h4 := h2.symm.trans h3
    simpa using h4
theorem pv_sub (x : Int) : ∀ (p q : List Int), p.length = q.length → pv x (List.zipWith (fun a b => a - b) p q) = pv x p - pv x q
  | [], [], _ => rfl
  | a :: p, b :: q, h => by
    show (a - b) + x * pv x (List.zipWith (fun a b => a - b) p q) = (a + x * pv x p) - (b + x * pv x q)
    rw [pv_sub x p q (by simpa using h)]
    grind
/-- Two polynomials that agree at enough numbers agree. -/
theorem uniq {Q : Int} {as p q : List Int} (hpq : p.length = q.length) (hl : p.length ≤ as.length) (hap : Apart Q as) (h : ∀ a, a ∈ as → Cg Q (pv a p) (pv a q)) : ∀ k, k < p.length → Cg Q (p.getD k 0) (q.getD k 0) := fun k hk => by
  have h0 := zero_of_roots as (List.zipWith (fun a b => a - b) p q) (by simp; omega) hap (fun a ha => by
    rw [pv_sub a p q hpq]
    have := (h a ha).sub (Cg.refl Q (pv a q))
    simpa using this) (p.getD k 0 - q.getD k 0) (by
    have hkq : k < q.length := by omega
    rw [List.getD_eq_getElem?_getD, List.getD_eq_getElem?_getD, List.getElem?_eq_getElem hk, List.getElem?_eq_getElem hkq]
    have hz : k < (List.zipWith (fun a b : Int => a - b) p q).length := by simp; omega
    have : (List.zipWith (fun a b : Int => a - b) p q)[k] = p[k] - q[k] := by simp
    show p[k] - q[k] ∈ _
    rw [← this]
    exact List.getElem_mem hz)
  have h1 := h0.add (Cg.refl Q (q.getD k 0))
  have e1 : p.getD k 0 - q.getD k 0 + q.getD k 0 = p.getD k 0 := by omega
  have e2 : 0 + q.getD k 0 = q.getD k 0 := by omega
  rw [e1, e2] at h1
  exact h1
theorem list_eq_of_cg {Q : Int} {p q : List Int} (hpq : p.length = q.length) (h : ∀ k, k < p.length → Cg Q (p.getD k 0) (q.getD k 0)) (hp : ∀ x, x ∈ p → 0 ≤ x ∧ x < Q) (hq : ∀ x, x ∈ q → 0 ≤ x ∧ x < Q) : p = q := by
  apply List.ext_getElem hpq
  intro k h1 h2
  have := h k h1
  rw [List.getD_eq_getElem?_getD, List.getD_eq_getElem?_getD, List.getElem?_eq_getElem h1, List.getElem?_eq_getElem h2] at this
  have a := hp _ (List.getElem_mem h1)
  have b := hq _ (List.getElem_mem h2)
  exact Cg.eq this a.1 a.2 b.1 b.2

/-- A polynomial times x - i (m is -i) times a factor, from a carry on. -/
def timesL (Q m f : Int) : Int → List Int → List Int
  | c, [] => [c]
  | c, p :: l => ((c + p * m % Q * f % Q) % Q) :: timesL Q m f ((0 + p * f % Q) % Q) l
theorem timesL_length (Q m f : Int) : ∀ (l : List Int) (c : Int), (timesL Q m f c l).length = l.length + 1
  | [], _ => rfl
  | _ :: l, _ => by show (timesL Q m f _ l).length + 1 = _; rw [timesL_length Q m f l]; rfl
theorem timesL_range {Q m f : Int} (hQ : 0 < Q) : ∀ (l : List Int) (c : Int), 0 ≤ c → c < Q → ∀ x, x ∈ timesL Q m f c l → 0 ≤ x ∧ x < Q
  | [], c, h0, h1, x, hx => by rw [timesL, List.mem_singleton] at hx; rw [hx]; exact ⟨h0, h1⟩
  | p :: l, c, h0, h1, x, hx => by
    rcases List.mem_cons.1 hx with rfl | hx
    · exact ⟨Int.emod_nonneg _ (by omega), Int.emod_lt_of_pos _ hQ⟩
    · exact timesL_range hQ l _ (Int.emod_nonneg _ (by omega)) (Int.emod_lt_of_pos _ hQ) x hx
theorem timesL_val (Q m f x : Int) : ∀ (l : List Int) (c : Int), Cg Q (pv x (timesL Q m f c l)) (c + pv x l * (m + x) * f)
  | [], c => Cg.of_eq (by simp [timesL, pv])
  | p :: l, c => by
    have ih := timesL_val Q m f x l ((0 + p * f % Q) % Q)
    show Cg Q ((c + p * m % Q * f % Q) % Q + x * pv x (timesL Q m f ((0 + p * f % Q) % Q) l)) (c + (p + x * pv x l) * (m + x) * f)
    have h1 : Cg Q ((c + p * m % Q * f % Q) % Q) (c + p * m * f) := (cg_emod _ _).trans ((Cg.refl _ _).add ((cg_emod _ _).trans ((cg_emod _ _).mul_right f)))
    have h2 : Cg Q ((0 + p * f % Q) % Q) (p * f) := (cg_emod _ _).trans (by rw [Int.zero_add]; exact cg_emod _ _)
    have h3 := h1.add ((ih.trans (h2.add (Cg.refl _ _))).mul_left x)
    exact h3.trans (Cg.of_eq (by grind))
/-- The part of one number. -/
def partL (Q xi : Int) : List Int → List Int → Option (List Int)
  | p, [] => some p
  | p, y :: l => match invF Q ((xi - y) % Q) with
    | none => none
    | some u => partL Q xi (timesL Q ((0 - y) % Q) u 0 p) l
theorem partL_append (Q xi : Int) : ∀ (l m : List Int) (p : List Int), partL Q xi p (l ++ m) = (partL Q xi p l).bind fun r => partL Q xi r m
  | [], m, p => rfl
  | y :: l, m, p => by
    show (match invF Q ((xi - y) % Q) with | none => none | some u => partL Q xi (timesL Q ((0 - y) % Q) u 0 p) (l ++ m)) = _
    cases h : invF Q ((xi - y) % Q) with
    | none => simp [partL, h]
    | some u => simp only [partL, h]; exact partL_append Q xi l m _
theorem partL_length {Q xi : Int} : ∀ {l p r : List Int}, partL Q xi p l = some r → r.length = p.length + l.length
  | [], p, r, h => by cases h; rfl
  | y :: l, p, r, h => by
    simp only [partL] at h
    split at h
    · cases h
    · rw [partL_length h, timesL_length]; simp; omega
theorem partL_range {Q xi : Int} (hQ : 0 < Q) : ∀ {l p r : List Int}, partL Q xi p l = some r → (∀ x, x ∈ p → 0 ≤ x ∧ x < Q) → ∀ x, x ∈ r → 0 ≤ x ∧ x < Q
  | [], p, r, h, hp => by cases h; exact hp
  | y :: l, p, r, h, hp => by
    simp only [partL] at h
    split at h
    · cases h
    · exact partL_range hQ h (timesL_range hQ _ 0 (Int.le_refl _) hQ)
/-- The product of the (x - y) over (xi - y). -/
def facL (Q xi x : Int) : List Int → Int
  | [] => 1
  | y :: l => (x - y) * (invF Q ((xi - y) % Q)).getD 0 * facL Q xi x l
theorem partL_val {Q xi x : Int} : ∀ {l p r : List Int}, partL Q xi p l = some r → Cg Q (pv x r) (pv x p * facL Q xi x l)
  | [], p, r, h => by cases h; exact Cg.of_eq (by simp [facL])
  | y :: l, p, r, h => by
    simp only [partL] at h
    split at h
    · cases h
    · rename_i u hu
      have ih := partL_val (x := x) h
      have h1 := timesL_val Q ((0 - y) % Q) u x p 0
      have h2 : Cg Q (0 + pv x p * ((0 - y) % Q + x) * u) (pv x p * (x - y) * u) := by
        have : Cg Q ((0 - y) % Q + x) ((0 - y) + x) := (cg_emod _ _).add (Cg.refl _ _)
        exact (Cg.of_eq (by grind)).trans (((this.mul_left (pv x p)).mul_right u).trans (Cg.of_eq (by grind)))
      refine ih.trans (((h1.trans h2).mul_right _).trans (Cg.of_eq ?_))
      simp only [facL, hu, Option.getD_some]
      grind
theorem facL_self {Q xi : Int} : ∀ {l p r : List Int}, partL Q xi p l = some r → Cg Q (facL Q xi xi l) 1
  | [], _, _, _ => Cg.refl _ _
  | y :: l, p, r, h => by
    simp only [partL] at h
    split at h
    · cases h
    · rename_i u hu
      have ih := facL_self h
      simp only [facL, hu, Option.getD_some]
      have h1 : Cg Q ((xi - y) * u) 1 := ((cg_emod Q (xi - y)).symm.mul_right u).trans (invF_some hu).2.2
      exact (h1.mul ih).trans (Cg.of_eq (by simp))
theorem facL_root {Q xi x : Int} : ∀ {l : List Int}, x ∈ l → facL Q xi x l = 0
  | y :: l, h => by
    rcases List.mem_cons.1 h with rfl | h
    · simp [facL]
    · simp [facL, facL_root h]
/-- The sum of the parts, from a list on. -/
def sumL (Q : Int) (ids : List Int) : List Int → List (Int × Int) → Option (List Int)
  | out, [] => some out
  | out, (xi, v) :: l => match partL Q xi [v] (ids.filter fun y => decide (y ≠ xi)) with
    | none => none
    | some r => sumL Q ids (List.zipWith (fun a b => (a + b) % Q) out r) l
theorem pv_addm {Q : Int} (x : Int) : ∀ (p q : List Int), p.length = q.length → Cg Q (pv x (List.zipWith (fun a b => (a + b) % Q) p q)) (pv x p + pv x q)
  | [], [], _ => Cg.refl _ _
  | a :: p, b :: q, h => by
    have ih := pv_addm (Q := Q) x p q (by simpa using h)
    show Cg Q ((a + b) % Q + x * pv x (List.zipWith (fun a b => (a + b) % Q) p q)) ((a + x * pv x p) + (b + x * pv x q))
    exact ((cg_emod _ _).add (ih.mul_left x)).trans (Cg.of_eq (by grind))
/-- The interpolation of the reference. -/
def throughS (Q : Int) (ids vs : List Int) : Option (List Int) := sumL Q ids (List.replicate ids.length 0) (ids.zip vs)
def sumV (Q x : Int) (ids : List Int) : List (Int × Int) → Int
  | [] => 0
  | (xi, v) :: l => v * facL Q xi x (ids.filter fun y => decide (y ≠ xi)) + sumV Q x ids l
theorem filter_ne_length {ids : List Int} {x : Int} (hnd : ids.Nodup) (hx : x ∈ ids) : (ids.filter fun y => decide (y ≠ x)).length + 1 = ids.length := by
  induction ids with
  | nil => cases hx
  | cons a l ih =>
    have hn := List.nodup_cons.1 hnd
    by_cases e : a = x
    · subst e
      have hf : l.filter (fun y => decide (y ≠ a)) = l := by
        rw [List.filter_eq_self]
        intro y hy
        simp only [ne_eq, decide_not, Bool.not_eq_true', decide_eq_false_iff_not]
        intro e; subst e; exact hn.1 hy
      rw [List.filter_cons_of_neg (by simp), hf]; rfl
    · have hx' : x ∈ l := by
        rcases List.mem_cons.1 hx with rfl | h
        · exact absurd rfl e
        · exact h
      rw [List.filter_cons_of_pos (by simpa using e), List.length_cons, List.length_cons, ih hn.2 hx']
theorem sumL_spec {Q : Int} {ids : List Int} (hQ : 0 < Q) (hnd : ids.Nodup) : ∀ {l : List (Int × Int)} {out r : List Int}, sumL Q ids out l = some r → out.length = ids.length → (∀ x, x ∈ out → 0 ≤ x ∧ x < Q) → (∀ q, q ∈ l → q.1 ∈ ids) →
    r.length = ids.length ∧ (∀ x, x ∈ r → 0 ≤ x ∧ x < Q) ∧ (∀ x, Cg Q (pv x r) (pv x out + sumV Q x ids l)) ∧ (∀ q, q ∈ l → ∃ p, partL Q q.1 [q.2] (ids.filter fun y => decide (y ≠ q.1)) = some p)
  | [], out, r, h, hl, hr, _ => by cases h; exact ⟨hl, hr, fun x => Cg.of_eq (by simp [sumV]), fun q hq => by cases hq⟩
  | (xi, v) :: l, out, r, h, hl, hr, hm => by
    simp only [sumL] at h
    split at h
    · cases h
    · rename_i p hp
      have hpl := partL_length hp
      have hfl : (ids.filter fun y => decide (y ≠ xi)).length + 1 = ids.length := filter_ne_length hnd (hm (xi, v) (by simp))
      have hlen : p.length = ids.length := by rw [hpl, ← hfl, List.length_cons, List.length_nil]; omega
      obtain ⟨h1, h2, h3, h4⟩ := sumL_spec hQ hnd h (by simp [hl, hlen]) (fun x hx => by
        rw [List.mem_iff_getElem] at hx
        obtain ⟨k, hk, rfl⟩ := hx
        simp only [List.getElem_zipWith]
        exact ⟨Int.emod_nonneg _ (by omega), Int.emod_lt_of_pos _ hQ⟩) (fun q hq => hm q (by simp [hq]))
      refine ⟨h1, h2, fun x => (h3 x).trans ?_, fun q hq => ?_⟩
      · refine ((pv_addm x out p (by omega)).add (Cg.refl _ _)).trans ?_
        have hv := partL_val (x := x) hp
        have h5 : Cg Q (pv x out + pv x p + sumV Q x ids l) (pv x out + pv x [v] * facL Q xi x (ids.filter fun y => decide (y ≠ xi)) + sumV Q x ids l) := ((Cg.refl _ _).add hv).add (Cg.refl _ _)
        refine h5.trans (Cg.of_eq ?_)
        simp only [sumV, pv]
        grind
      · rcases List.mem_cons.1 hq with rfl | hq
        · exact ⟨p, hp⟩
        · exact h4 q hq
/-- At a number of the list the sum is its value. -/
theorem sumV_other {Q x : Int} {ids : List Int} (hx : x ∈ ids) : ∀ {l : List (Int × Int)}, (∀ q, q ∈ l → q.1 ≠ x) → sumV Q x ids l = 0
  | [], _ => rfl
  | (xi, v) :: l, h => by
    have h1 : x ∈ ids.filter fun y => decide (y ≠ xi) := by
      rw [List.mem_filter]
      have := h (xi, v) (by simp)
      exact ⟨hx, by simpa using fun e : x = xi => this e.symm⟩
    have h0 : sumV Q x ids l = 0 := sumV_other hx (fun q hq => h q (List.mem_cons_of_mem _ hq))
    show v * facL Q xi x (ids.filter fun y => decide (y ≠ xi)) + sumV Q x ids l = 0
    rw [facL_root h1, h0]
    simp
theorem sumV_at {Q x v : Int} {ids : List Int} (hx : x ∈ ids) : ∀ {l : List (Int × Int)}, (l.map fun q => q.1).Nodup → (x, v) ∈ l → (∃ p, partL Q x [v] (ids.filter fun y => decide (y ≠ x)) = some p) → Cg Q (sumV Q x ids l) v
  | (xi, w) :: l, hn, hm, hp => by
    rw [List.map_cons, List.nodup_cons] at hn
    have hmem : ∀ q : Int × Int, q ∈ l → q.1 ∈ l.map fun q => q.1 := fun q hq => List.mem_map.2 ⟨q, hq, rfl⟩
    show Cg Q (w * facL Q xi x (ids.filter fun y => decide (y ≠ xi)) + sumV Q x ids l) v
    rcases List.mem_cons.1 hm with h | h
    · obtain ⟨rfl, rfl⟩ := Prod.mk.inj h
      obtain ⟨p, hp⟩ := hp
      have h0 : sumV Q x ids l = 0 := sumV_other hx (fun q hq e => hn.1 (by show x ∈ _; rw [← e]; exact hmem q hq))
      rw [h0]
      exact (((facL_self hp).mul_left v).add (Cg.refl _ _)).trans (Cg.of_eq (by simp))
    · have hne : xi ≠ x := fun e => hn.1 (by show xi ∈ _; rw [e]; exact hmem _ h)
      have h1 : x ∈ ids.filter fun y => decide (y ≠ xi) := by
        rw [List.mem_filter]
        exact ⟨hx, by simpa using fun e : x = xi => hne e.symm⟩
      rw [facL_root h1]
      have := sumV_at hx hn.2 h hp
      simpa using this
end Go.Proofs.Ytjfaaicbojnpaaa.Num
