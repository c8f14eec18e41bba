/- A region that draws its order, in two stages: what a condition says of the world holds till one operation, the barrier, comes up. -/
import Derived.Test.YtlbldpkgnonbpaaDoorBas
import Derived.Deep.RegionHeld3
namespace Go.Proofs.YtlbldpkgnonbpaaDoor
open Go

section
variable {P : Program} {ops : Array Oper} {Q : Exit → Act → World → Prop} {md : Region.Mode} {b : Nat} {S : World → Prop}

/-- Whatever order is picked from here on; behind each operation, as long as the barrier has not come up, the condition holds. -/
def wpAnyB (P : Program) (md : Region.Mode) (ops : Array Oper) (Q : Exit → Act → World → Prop) (b : Nat) (S : World → Prop) : Nat → Array Bool → Act → World → Prop
  | 0, listed, a, w => Region.ready md ops listed = [] ∧ Q .normal a w
  | fuel + 1, listed, a, w =>
    (Region.ready md ops listed = [] → Q .normal a w) ∧
    ∀ i ∈ Region.ready md ops listed, wpOp P ops Q i (fun a' w' => ((listed.setIfInBounds i true).getD b true = false → S w') ∧ wpAnyB P md ops Q b S fuel (listed.setIfInBounds i true) a' w') a w

theorem wpAny_of_stage : ∀ (fuel : Nat) (listed : Array Bool) (a : Act) (w : World), wpAnyB P md ops Q b S fuel listed a w → wpAny P md ops Q fuel listed a w
  | 0, _, _, _, h => h
  | fuel + 1, _, _, _, h => ⟨h.1, fun i hi => wpOp_mono (fun a' w' h' => wpAny_of_stage fuel _ a' w' h'.2) (h.2 i hi)⟩

theorem listed_not {i : Nat} {listed : Array Bool} {oj : Oper} (hr : listed.getD i true = false) (hall : ∀ e ∈ oj.after, Region.binds md e = true → listed.getD e.on false = true) : ∀ e ∈ oj.after, Region.binds md e = true → e.on ≠ i := fun e he hb heq => by
  have h1 := hall e he hb
  rw [heq] at h1
  rcases Nat.lt_or_ge i listed.size with h' | h'
  · simp [h'] at hr h1; rw [hr] at h1; cases h1
  · simp [Array.getElem?_eq_none h'] at h1

/-- An operation that may come up now may be taken first, if it yields its value in every world that meets the condition, and the barrier waits for it. -/
theorem wpAnyB_first {i : Nat} {oi : Oper} {v : Value} (hi : ops[i]? = some oi) (hsel : ∀ (j : Nat) (o : Oper) cs b, ops[j]? = some o → o.op ≠ .select cs b)
    (hQ : ∀ c a w, Q (.panic c) (a.put oi.dst v) w → Q (.panic c) a w) (T : List Nat) (hbT : b ∈ T) (hiT : i ∉ T) (hw : ∀ t, t ∈ T → ∃ ob, ops[t]? = some ob ∧ ∃ e, e ∈ ob.after ∧ Region.binds md e = true ∧ (e.on = i ∨ e.on ∈ T)) :
    ∀ (fuel : Nat) (listed : Array Bool) (a : Act) (w : World),
      (∀ j oj, ops[j]? = some oj → j ≠ i → listed.getD j true = false → (∀ e ∈ oj.after, Region.binds md e = true → e.on ≠ i) → oi.apart ops oj = true) →
      i ∈ Region.ready md ops listed → (∀ t, t ∈ T → listed.getD t true = false) → YieldsIf P ops S oi v a → S w →
      wpAnyB P md ops Q b S fuel (listed.setIfInBounds i true) (a.put oi.dst v) w → wpAnyB P md ops Q b S (fuel + 1) listed a w := by
  intro fuel
  induction fuel with
  | zero =>
    intro listed a w _ hr _ hy hS H
    refine ⟨fun h => (by rw [h] at hr; cases hr), fun j hj => ?_⟩
    by_cases hji : j = i
    · subst hji; exact hy.wpOp hi hS ⟨fun _ => hS, H⟩
    · have := ready_mono hj hji
      rw [H.1] at this
      cases this
  | succ fuel ih =>
    intro listed a w hfree hr hb hy hS H
    refine ⟨fun h => (by rw [h] at hr; cases hr), fun j hj => ?_⟩
    by_cases hji : j = i
    · subst hji; exact hy.wpOp hi hS ⟨fun _ => hS, H⟩
    · have h1 := H.2 j (ready_mono hj hji)
      obtain ⟨hjun, oj, hoj, hall⟩ := mem_ready.1 hj
      have hnot : ∀ e ∈ oj.after, Region.binds md e = true → e.on ≠ i := listed_not (mem_ready.1 hr).1 hall
      have hjT : j ∉ T := fun hjT => by
        obtain ⟨ob, hob, e, he, hbi, hon⟩ := hw j hjT
        rw [hoj] at hob
        cases hob
        rcases hon with hon | hon
        · exact hnot e he hbi hon
        · exact listed_not (hb e.on hon) hall e he hbi rfl
      have hjb : j ≠ b := fun h => hjT (h ▸ hbT)
      have hib : i ≠ b := fun h => hiT (h ▸ hbT)
      have h2 := wpOp_putIf hoj (hfree j oj hoj hji hjun hnot) (fun cs b => hsel i oi cs b hi) (fun cs b => hsel j oj cs b hoj) hQ hy h1
      have hfree' : ∀ k ok, ops[k]? = some ok → k ≠ i → (listed.setIfInBounds j true).getD k true = false →
          (∀ e ∈ ok.after, Region.binds md e = true → e.on ≠ i) → oi.apart ops ok = true := fun k ok hk hki hun hno => by
        refine hfree k ok hk hki ?_ hno
        by_cases hjk : j = k
        · subst hjk; exact hjun
        · rw [getD_set_ne true hjk] at hun; exact hun
      have hb1 : ((listed.setIfInBounds i true).setIfInBounds j true).getD b true = false := by
        rw [getD_set_ne true hjb, getD_set_ne true hib]; exact hb b hbT
      refine wpOp_mono (fun a' w' h3 => ⟨fun _ => h3.2.1 hb1, ih (listed.setIfInBounds j true) a' w' hfree' (ready_mono hr (Ne.symm hji)) (fun t ht => by rw [getD_set_ne true (fun h => hjT (by rw [h]; exact ht))]; exact hb t ht) h3.1 (h3.2.1 hb1) ?_⟩) h2
      rw [Array.setIfInBounds_comm _ _ hji]
      exact h3.2.2

/-- An operation that yields its value in whatever world. -/
theorem wpAnyB_firstP {i : Nat} {oi : Oper} {v : Value} (hi : ops[i]? = some oi) (hsel : ∀ (j : Nat) (o : Oper) cs b, ops[j]? = some o → o.op ≠ .select cs b)
    (hQ : ∀ c a w, Q (.panic c) (a.put oi.dst v) w → Q (.panic c) a w) (hib : i ≠ b) :
    ∀ (fuel : Nat) (listed : Array Bool) (a : Act) (w : World),
      (∀ j oj, ops[j]? = some oj → j ≠ i → listed.getD j true = false → (∀ e ∈ oj.after, Region.binds md e = true → e.on ≠ i) → oi.apart ops oj = true) →
      i ∈ Region.ready md ops listed → Yields P ops oi v a → (listed.getD b true = false → S w) →
      wpAnyB P md ops Q b S fuel (listed.setIfInBounds i true) (a.put oi.dst v) w → wpAnyB P md ops Q b S (fuel + 1) listed a w := by
  intro fuel
  induction fuel with
  | zero =>
    intro listed a w _ hr hy hS H
    refine ⟨fun h => (by rw [h] at hr; cases hr), fun j hj => ?_⟩
    by_cases hji : j = i
    · subst hji; exact hy.wpOp hi ⟨fun h => hS (by rw [getD_set_ne true hib] at h; exact h), H⟩
    · have := ready_mono hj hji
      rw [H.1] at this
      cases this
  | succ fuel ih =>
    intro listed a w hfree hr hy hS H
    refine ⟨fun h => (by rw [h] at hr; cases hr), fun j hj => ?_⟩
    by_cases hji : j = i
    · subst hji; exact hy.wpOp hi ⟨fun h => hS (by rw [getD_set_ne true hib] at h; exact h), H⟩
    · have h1 := H.2 j (ready_mono hj hji)
      obtain ⟨hjun, oj, hoj, hall⟩ := mem_ready.1 hj
      have hnot : ∀ e ∈ oj.after, Region.binds md e = true → e.on ≠ i := listed_not (mem_ready.1 hr).1 hall
      have h2 := wpOp_put hoj (hfree j oj hoj hji hjun hnot) (fun cs b => hsel i oi cs b hi) (fun cs b => hsel j oj cs b hoj) hQ hy h1
      have hfree' : ∀ k ok, ops[k]? = some ok → k ≠ i → (listed.setIfInBounds j true).getD k true = false →
          (∀ e ∈ ok.after, Region.binds md e = true → e.on ≠ i) → oi.apart ops ok = true := fun k ok hk hki hun hno => by
        refine hfree k ok hk hki ?_ hno
        by_cases hjk : j = k
        · subst hjk; exact hjun
        · rw [getD_set_ne true hjk] at hun; exact hun
      have hs3 : ∀ w', (((listed.setIfInBounds i true).setIfInBounds j true).getD b true = false → S w') → (listed.setIfInBounds j true).getD b true = false → S w' := fun w' h h' => h (by
        rw [Array.setIfInBounds_comm _ _ (Ne.symm hji), getD_set_ne true hib]; exact h')
      refine wpOp_mono (fun a' w' h3 => ⟨hs3 w' h3.2.1, ih (listed.setIfInBounds j true) a' w' hfree' (ready_mono hr (Ne.symm hji)) h3.1 (hs3 w' h3.2.1) ?_⟩) h2
      rw [Array.setIfInBounds_comm _ _ hji]
      exact h3.2.2

/-- Does every operation of 'T' wait for operation 'i' or for one of 'T'? -/
def waitsAll (md : Region.Mode) (ops : Array Oper) (listed : Array Bool) (T : List Nat) (b i : Nat) : Bool :=
  T.contains b && !T.contains i && T.all fun t => !listed.getD t true && match ops[t]? with
    | none => false
    | some ob => ob.after.any fun e => Region.binds md e && (e.on == i || T.contains e.on)

theorem waitsAll_spec {listed : Array Bool} {T : List Nat} {i : Nat} (h : waitsAll md ops listed T b i = true) : b ∈ T ∧ i ∉ T ∧ (∀ t, t ∈ T → listed.getD t true = false) ∧
    ∀ t, t ∈ T → ∃ ob, ops[t]? = some ob ∧ ∃ e, e ∈ ob.after ∧ Region.binds md e = true ∧ (e.on = i ∨ e.on ∈ T) := by
  unfold waitsAll at h
  simp only [Bool.and_eq_true, Bool.not_eq_true', List.all_eq_true] at h
  obtain ⟨⟨h1, h2⟩, h3⟩ := h
  refine ⟨by simpa using h1, by simpa using h2, fun t ht => (h3 t ht).1, fun t ht => ?_⟩
  have h4 := (h3 t ht).2
  cases hb : ops[t]? with
  | none => simp [hb] at h4
  | some ob =>
    simp only [hb] at h4
    obtain ⟨e, he, hx⟩ := Array.any_eq_true'.1 h4
    simp only [Bool.and_eq_true, Bool.or_eq_true, beq_iff_eq] at hx
    exact ⟨ob, rfl, e, he, hx.1, hx.2.imp id fun h => by simpa using h⟩

/-- An operation without its place and its edges. -/
def bareOp (dst : Option Tmp) (op : Op) (ty : TypeId) : Oper := { dst, op, type := ty, pos := "", after := #[], guard := none }
def isBare (ops : Array Oper) (i : Nat) (dst : Option Tmp) (op : Op) (ty : TypeId) : Prop := ∃ o, ops[i]? = some o ∧ o.dst = dst ∧ o.op = op ∧ o.type = ty ∧ o.guard = none

theorem exec_bare {o : Oper} {dst : Option Tmp} {op : Op} {ty : TypeId} (h : o.op = op) (h' : o.type = ty) (ρ : Operand → Value) : execOp ρ o = execOp ρ (bareOp dst op ty) := by
  subst h h'
  obtain ⟨d, o, t, p, af, g⟩ := o
  cases o <;> rfl

theorem wpAnyB_take {i : Nat} (dst : Option Tmp) (op : Op) (ty : TypeId) {v : Value} {fuel : Nat} {listed : Array Bool} {a : Act} {w : World} (hi : isBare ops i dst op ty)
    (hs : Region.noSelect ops = true) (hf : Region.free md ops listed i = true) (hr : (Region.ready md ops listed).contains i = true)
    (T : List Nat) (hwf : waitsAll md ops listed T b i = true)
    (hQ : ∀ c a w, Q (.panic c) (a.put dst v) w → Q (.panic c) a w) (hS : S w) (hy : ∀ w, S w → (execOp a.eval (bareOp dst op ty)).run P w = .ok (.value v) w)
    (h : wpAnyB P md ops Q b S fuel (listed.setIfInBounds i true) (a.put dst v) w) : wpAnyB P md ops Q b S (fuel + 1) listed a w := by
  obtain ⟨o, ho, rfl, h1, h2, h3⟩ := hi
  exact wpAnyB_first ho (Region.noSelect_spec hs) hQ T (waitsAll_spec hwf).1 (waitsAll_spec hwf).2.1 (waitsAll_spec hwf).2.2.2 fuel listed a w (Region.free_spec ho hf) (by simpa using hr) (waitsAll_spec hwf).2.2.1
    (.inl ⟨by simp [Region.wanted, h3], fun w hw => by rw [exec_bare h1 h2]; exact hy w hw⟩) hS h

theorem wpAnyB_takeP {i : Nat} (dst : Option Tmp) (op : Op) (ty : TypeId) {v : Value} {fuel : Nat} {listed : Array Bool} {a : Act} {w : World} (hi : isBare ops i dst op ty)
    (hs : Region.noSelect ops = true) (hf : Region.free md ops listed i = true) (hr : (Region.ready md ops listed).contains i = true)
    (hib : (i == b) = false)
    (hQ : ∀ c a w, Q (.panic c) (a.put dst v) w → Q (.panic c) a w) (hS : listed.getD b true = false → S w) (hy : ∀ w, (execOp a.eval (bareOp dst op ty)).run P w = .ok (.value v) w)
    (h : wpAnyB P md ops Q b S fuel (listed.setIfInBounds i true) (a.put dst v) w) : wpAnyB P md ops Q b S (fuel + 1) listed a w := by
  obtain ⟨o, ho, rfl, h1, h2, h3⟩ := hi
  exact wpAnyB_firstP ho (Region.noSelect_spec hs) hQ (by simpa using hib) fuel listed a w (Region.free_spec ho hf) (by simpa using hr)
    (.inl ⟨by simp [Region.wanted, h3], fun w => by rw [exec_bare h1 h2]; exact hy w⟩) hS h

/-- Only one operation may come up. -/
theorem wpAnyB_only {i : Nat} (dst : Option Tmp) (op : Op) (ty : TypeId) {fuel : Nat} {listed : Array Bool} {a : Act} {w : World} (hi : isBare ops i dst op ty) (hr : Region.ready md ops listed = [i])
    (h : ∀ K : Act → World → Prop, RowKit.Hid (∀ a w, ((listed.setIfInBounds i true).getD b true = false → S w) → wpAnyB P md ops Q b S fuel (listed.setIfInBounds i true) a w → K a w) →
      Oper.wp P (bareOp dst op ty) a w K Q) :
    wpAnyB P md ops Q b S (fuel + 1) listed a w := by
  obtain ⟨o, ho, rfl, h1, h2, h3⟩ := hi
  refine ⟨fun h0 => (by rw [hr] at h0; cases h0), fun j hj => ?_⟩
  rw [hr] at hj
  rcases List.mem_singleton.1 hj with rfl
  refine wpOp_step ho (fun K hK => ?_)
  rw [if_pos (by simp [Region.wanted, h3])]
  have h4 := h K (Lib.hid fun a w hS hW => hK a w ⟨hS, hW⟩)
  unfold Oper.wp at h4 ⊢
  rw [exec_bare (dst := o.dst) h1 h2]
  exact h4

theorem wpAnyB_done {listed : Array Bool} {a : Act} {w : World} (hr : Region.ready md ops listed = []) (h : Q .normal a w) :
    ∀ fuel, wpAnyB P md ops Q b S fuel listed a w
  | 0 => ⟨hr, h⟩
  | _ + 1 => ⟨fun _ => h, by rw [hr]; simp⟩

theorem wp_region_stage {id : Nat} {a : Act} {w : World} (b : Nat) (S : World → Prop) (hm : P.follows .mixedOrders = true)
    (h : wpAnyB P .any ops Q b S ops.size (Array.replicate ops.size false) a w.drew) : (Code.region id ops true).wp P Q a w :=
  wp_region_any hm (wpAny_of_stage _ _ _ _ h)

end
end Go.Proofs.YtlbldpkgnonbpaaDoor
