/- Plain: inverses as a function; Lagrange's weights. No program in sight. -/
import Derived.Test.YtjfaaicbojnpaaaPoly
namespace Go.Proofs.Ytjfaaicbojnpaaa.Num

/-- The inverse of a number, if there is one. -/
def invF (Q a : Int) : Option Int := ((List.range Q.toNat).find? fun r : Nat => decide (a * (r : Int) % Q = 1 % Q)).map fun r : Nat => (r : Int)
theorem invF_some {Q a u : Int} (h : invF Q a = some u) : Inv Q a u := by
  simp only [invF, Option.map_eq_some_iff] at h
  obtain ⟨r, hr, rfl⟩ := h
  have h1 := List.find?_some hr
  have h2 := List.mem_of_find?_eq_some hr
  simp at h1 h2
  exact ⟨by omega, by omega, cg_of_emod h1⟩
theorem invF_none {Q a : Int} (h : invF Q a = none) : ∀ u, ¬ Inv Q a u := fun u hu => by
  simp only [invF, Option.map_eq_none_iff, List.find?_eq_none] at h
  have := h u.toNat (by have := hu.1; have := hu.2.1; simp; omega)
  refine this ?_
  have e : ((u.toNat : Nat) : Int) = u := by have := hu.1; omega
  rw [e]
  exact decide_eq_true hu.2.2.emod_eq
theorem invF_of {Q a u : Int} (h : Inv Q a u) : invF Q a = some u := by
  cases hc : invF Q a with
  | none => exact absurd h (invF_none hc u)
  | some v => rw [(invF_some hc).uniq h]
theorem invS_some {Q a u : Int} (h : invF Q a = some u) : InvS Q a true u := .inl ⟨rfl, invF_some h⟩
theorem invS_none {Q a : Int} (hQ : 0 < Q) (h : invF Q a = none) : InvS Q a false 0 := .inr ⟨rfl, rfl, fun hg => by
  obtain ⟨u, hu⟩ := inv_of_gcd hQ hg
  exact invF_none h u hu⟩

/-- The weight of i against a list of others, from a number on. -/
def wOneL (Q i : Int) : Int → List Int → Option Int
  | w, [] => some w
  | w, j :: l => match invF Q ((j - i) % Q) with
    | none => none
    | some u => wOneL Q i (w * (j * u % Q) % Q) l
theorem wOneL_append (Q i : Int) : ∀ (l m : List Int) (w : Int), wOneL Q i w (l ++ m) = (wOneL Q i w l).bind fun w' => wOneL Q i w' m
  | [], m, w => rfl
  | j :: l, m, w => by
    show (match invF Q ((j - i) % Q) with | none => none | some u => wOneL Q i (w * (j * u % Q) % Q) (l ++ m)) = _
    cases h : invF Q ((j - i) % Q) with
    | none => simp [wOneL, h]
    | some u => simp only [wOneL, h]; exact wOneL_append Q i l m _
theorem wOneL_range {Q i : Int} (hQ : 0 < Q) : ∀ (l : List Int) (w v : Int), 0 ≤ w → w < Q → wOneL Q i w l = some v → 0 ≤ v ∧ v < Q
  | [], w, v, h0, h1, h => by cases h; exact ⟨h0, h1⟩
  | j :: l, w, v, h0, h1, h => by
    simp only [wOneL] at h
    split at h
    · cases h
    · exact wOneL_range hQ l _ v (Int.emod_nonneg _ (by omega)) (Int.emod_lt_of_pos _ hQ) h
def wOne (Q : Int) (ids : List Int) (i : Int) : Option Int := wOneL Q i 1 (ids.filter fun j => decide (j ≠ i))
/-- The weights of the members of a list. -/
def wAll (Q : Int) (ids : List Int) : List Int → Option (List Int)
  | [] => some []
  | i :: l => match wOne Q ids i, wAll Q ids l with
    | some w, some ws => some (w :: ws)
    | _, _ => none
theorem wAll_append {Q : Int} {ids : List Int} : ∀ (l m : List Int), wAll Q ids (l ++ m) = (wAll Q ids l).bind fun a => (wAll Q ids m).map fun b => a ++ b
  | [], m => by simp [wAll]
  | i :: l, m => by
    simp only [List.cons_append, wAll, wAll_append l m]
    cases wOne Q ids i <;> cases wAll Q ids l <;> cases wAll Q ids m <;> simp
theorem wAll_snoc {Q : Int} {ids l : List Int} {i w : Int} {ws : List Int} (h : wAll Q ids l = some ws) (h1 : wOne Q ids i = some w) : wAll Q ids (l ++ [i]) = some (ws ++ [w]) := by
  rw [wAll_append, h]; simp [wAll, h1]
theorem wAll_none {Q : Int} {ids : List Int} {i : Int} : ∀ {l : List Int}, i ∈ l → wOne Q ids i = none → wAll Q ids l = none
  | j :: l, hm, h => by
    rcases List.mem_cons.1 hm with rfl | hm
    · simp [wAll, h]
    · simp only [wAll, wAll_none hm h]
      cases wOne Q ids j <;> rfl
theorem wAll_len {Q : Int} {ids : List Int} : ∀ {l ws : List Int}, wAll Q ids l = some ws → ws.length = l.length
  | [], ws, h => by cases h; rfl
  | i :: l, ws, h => by
    simp only [wAll] at h
    split at h
    · rename_i w ws' _ h2
      cases h
      simp [wAll_len h2]
    · cases h
theorem wAll_range {Q : Int} {ids : List Int} (hQ : 1 < Q) : ∀ {l ws : List Int}, wAll Q ids l = some ws → ∀ w, w ∈ ws → 0 ≤ w ∧ w < Q
  | [], ws, h, w, hw => by cases h; cases hw
  | i :: l, ws, h, w, hw => by
    simp only [wAll] at h
    split at h
    · rename_i w' ws' h1 h2
      cases h
      rcases List.mem_cons.1 hw with rfl | hw
      · exact wOneL_range (by omega) _ 1 _ (by omega) hQ h1
      · exact wAll_range hQ h2 w hw
    · cases h
end Go.Proofs.Ytjfaaicbojnpaaa.Num
