/- A region that draws its order: a cloud of operations, done in whatever order. An invariant tells what they have yielded so far and what has become of the world. -/
import Derived.Test.YtlbldpkgnonbpaaGreatDoorZqC
import Derived.Test.YtlbldpkgnonbpaaGreatDoorZqT
set_option linter.unusedSimpArgs false
set_option linter.unusedVariables false
set_option maxRecDepth 100000
namespace Go.Proofs.YtlbldpkgnonbpaaGreatDoor
open Go
section
variable {P : Program} {ops : Array Oper} {Q : Exit → Act → World → Prop} {md : Region.Mode} {b : Nat} {S : World → Prop}
def putC (y : Nat → Option Value) : List (Nat × Tmp) → Act → Act
  | [], a => a
  | p :: ds, a => putC y ds (a.put (some p.2) ((y p.1).getD (a.eval (.tmp p.2))))
def listC (y : Nat → Option Value) : List (Nat × Tmp) → Array Bool → Array Bool
  | [], l => l
  | p :: ds, l => listC y ds (if (y p.1).isSome then l.setIfInBounds p.1 true else l)
def updC (y : Nat → Option Value) (j : Nat) (v : Value) : Nat → Option Value := fun k => if k = j then some v else y k
@[simp] theorem updC_same (y : Nat → Option Value) (j : Nat) (v : Value) : updC y j v j = some v := by simp [updC]
theorem uS {y : Nat → Option Value} {k : Nat} {v r : Value} (hv : updC y k v k = some r) : v = r := Option.some.inj ((updC_same y k v).symm.trans hv)
theorem updC_ne (y : Nat → Option Value) {j k : Nat} (v : Value) (h : k ≠ j) : updC y j v k = y k := by simp [updC, h]
theorem uN {y : Nat → Option Value} {k q : Nat} {v r : Value} (hv : updC y k v q = some r) (h : q ≠ k := by decide) : y q = some r := (updC_ne y v h).symm.trans hv
theorem put_comm (a : Act) {d e : Tmp} (u v : Value) (h : d ≠ e) : (a.put (some d) u).put (some e) v = (a.put (some e) v).put (some d) u := by
 simp only [Act.put]
 rw [Array.setIfInBounds_comm _ _ h]
theorem put_twice (a : Act) (d : Tmp) (u v : Value) : (a.put (some d) u).put (some d) v = a.put (some d) v := by
 simp [Act.put]
theorem eval_put_ne (a : Act) {d e : Tmp} (u : Value) (h : d ≠ e) : (a.put (some d) u).eval (.tmp e) = a.eval (.tmp e) := by
 simp [Act.put, Act.eval, Array.getElem?_setIfInBounds, h]
theorem putC_put (y : Nat → Option Value) : ∀ (ds : List (Nat × Tmp)) (a : Act) (d : Tmp) (v : Value), d ∉ ds.map Prod.snd → putC y ds (a.put (some d) v) = (putC y ds a).put (some d) v
  | [], _, _, _, _ => rfl
  | p :: ds, a, d, v, h => by
   have hne : d ≠ p.2 := fun e => h (by simp [e])
   show putC y ds ((a.put (some d) v).put (some p.2) ((y p.1).getD ((a.put (some d) v).eval (.tmp p.2)))) = _
   rw [eval_put_ne a v hne, put_comm a v _ hne, putC_put y ds _ d v (fun hm => h (by simp at hm ⊢; exact .inr hm))]
   rfl
theorem putC_same {y y' : Nat → Option Value} : ∀ (ds : List (Nat × Tmp)) (a : Act), (∀ p, p ∈ ds → y p.1 = y' p.1) → putC y ds a = putC y' ds a
  | [], _, _ => rfl
  | p :: ds, a, h => by
   show putC y ds _ = putC y' ds _
   rw [h p (by simp)]
   exact putC_same ds _ (fun q hq => h q (by simp [hq]))
theorem putC_upd (y : Nat → Option Value) (v : Value) : ∀ (ds : List (Nat × Tmp)) (a : Act) (p : Nat × Tmp), p ∈ ds → (ds.map Prod.fst).Nodup → (ds.map Prod.snd).Nodup → (putC y ds a).put (some p.2) v = putC (updC y p.1 v) ds a
  | [], _, _, h, _, _ => by cases h
  | q :: ds, a, p, h, h1, h2 => by
   rw [List.map_cons, List.nodup_cons] at h1 h2
   rcases List.mem_cons.1 h with rfl | h
   · show (putC y ds (a.put (some p.2) ((y p.1).getD (a.eval (.tmp p.2))))).put (some p.2) v = putC (updC y p.1 v) ds (a.put (some p.2) ((updC y p.1 v p.1).getD (a.eval (.tmp p.2))))
     rw [updC_same, ← putC_put y ds _ p.2 v h2.1, put_twice]
     exact putC_same ds _ fun q hq => (updC_ne y v (fun e => h1.1 (by rw [← e]; exact List.mem_map_of_mem hq))).symm
   · have hne : q.1 ≠ p.1 := fun e => h1.1 (by rw [e]; exact List.mem_map_of_mem h)
     show (putC y ds (a.put (some q.2) ((y q.1).getD (a.eval (.tmp q.2))))).put (some p.2) v = putC (updC y p.1 v) ds (a.put (some q.2) ((updC y p.1 v q.1).getD (a.eval (.tmp q.2))))
     rw [updC_ne y v hne]
     exact putC_upd y v ds _ p h h1.2 h2.2
theorem listC_set (y : Nat → Option Value) : ∀ (ds : List (Nat × Tmp)) (l : Array Bool) (j : Nat), listC y ds (l.setIfInBounds j true) = (listC y ds l).setIfInBounds j true
  | [], _, _ => rfl
  | p :: ds, l, j => by
   show listC y ds (if (y p.1).isSome then (l.setIfInBounds j true).setIfInBounds p.1 true else l.setIfInBounds j true) = (listC y ds (if (y p.1).isSome then l.setIfInBounds p.1 true else l)).setIfInBounds j true
   rw [← listC_set y ds]
   by_cases hj : j = p.1
   · subst hj; split <;> simp
   · split
     · rw [Array.setIfInBounds_comm _ _ hj]
     · rfl
theorem listC_same {y y' : Nat → Option Value} : ∀ (ds : List (Nat × Tmp)) (l : Array Bool), (∀ p, p ∈ ds → y p.1 = y' p.1) → listC y ds l = listC y' ds l
  | [], _, _ => rfl
  | p :: ds, a, h => by
   show listC y ds _ = listC y' ds _
   rw [h p (by simp)]
   exact listC_same ds _ (fun q hq => h q (by simp [hq]))
theorem listC_upd (y : Nat → Option Value) (v : Value) : ∀ (ds : List (Nat × Tmp)) (l : Array Bool) (p : Nat × Tmp), p ∈ ds → (ds.map Prod.fst).Nodup → (listC y ds l).setIfInBounds p.1 true = listC (updC y p.1 v) ds l
  | [], _, _, h, _ => by cases h
  | q :: ds, l, p, h, h1 => by
   rw [List.map_cons, List.nodup_cons] at h1
   rcases List.mem_cons.1 h with rfl | h
   · show (listC y ds (if (y p.1).isSome then l.setIfInBounds p.1 true else l)).setIfInBounds p.1 true = listC (updC y p.1 v) ds (if (updC y p.1 v p.1).isSome then l.setIfInBounds p.1 true else l)
     rw [updC_same, ← listC_set y ds]
     have e : (if (y p.1).isSome then l.setIfInBounds p.1 true else l).setIfInBounds p.1 true = l.setIfInBounds p.1 true := by split <;> simp
     rw [e]
     exact listC_same ds _ fun q hq => (updC_ne y v (fun e => h1.1 (by rw [← e]; exact List.mem_map_of_mem hq))).symm
   · have hne : q.1 ≠ p.1 := fun e => h1.1 (by rw [e]; exact List.mem_map_of_mem h)
     show (listC y ds (if (y q.1).isSome then l.setIfInBounds q.1 true else l)).setIfInBounds p.1 true = listC (updC y p.1 v) ds (if (updC y p.1 v q.1).isSome then l.setIfInBounds q.1 true else l)
     rw [updC_ne y v hne]
     exact listC_upd y v ds _ p h h1.2
def subsC {α : Type} : List α → List (List α)
  | [] => [[]]
  | x :: l => subsC l ++ (subsC l).map (x :: ·)
theorem filter_subsC {α : Type} (f : α → Bool) : ∀ l : List α, l.filter f ∈ subsC l
  | [] => by simp [subsC]
  | x :: l => by
   have := filter_subsC f l
   rw [List.filter_cons]
   split <;> simp [subsC, this]
def setAll (l : Array Bool) : List (Nat × Tmp) → Array Bool
  | [] => l
  | p :: ds => setAll (l.setIfInBounds p.1 true) ds
theorem listC_filter (y : Nat → Option Value) : ∀ (ds : List (Nat × Tmp)) (l : Array Bool), listC y ds l = setAll l (ds.filter fun p => (y p.1).isSome)
  | [], _ => rfl
  | p :: ds, l => by
   show listC y ds (if (y p.1).isSome then l.setIfInBounds p.1 true else l) = _
   rw [listC_filter y ds, List.filter_cons]
   split <;> rfl
def readyC (md : Region.Mode) (ops : Array Oper) (ds : List (Nat × Tmp)) (l : Array Bool) : Bool :=
  (subsC ds).all fun s => s.length == ds.length || (let r := Region.ready md ops (setAll l s); !r.isEmpty && r.all fun i => ds.any fun p => p.1 == i && !s.contains p)
def leftC (y : Nat → Option Value) (ds : List (Nat × Tmp)) : Nat := (ds.filter fun p => !(y p.1).isSome).length
theorem leftC_zero {y : Nat → Option Value} {ds : List (Nat × Tmp)} (h : leftC y ds = 0) : ∀ p, p ∈ ds → (y p.1).isSome = true := by
 intro p hp
 have h1 : ds.filter (fun p => !(y p.1).isSome) = [] := List.eq_nil_of_length_eq_zero h
 rw [List.filter_eq_nil_iff] at h1
 have := h1 p hp
 cases hs : (y p.1).isSome with
 | true => rfl
 | false => rw [hs] at this; exact absurd rfl this
theorem leftC_upd {y : Nat → Option Value} (v : Value) : ∀ {ds : List (Nat × Tmp)} {p : Nat × Tmp}, p ∈ ds → (ds.map Prod.fst).Nodup → y p.1 = none → leftC y ds = leftC (updC y p.1 v) ds + 1
  | [], _, h, _, _ => by cases h
  | q :: ds, p, h, h1, hn => by
   rw [List.map_cons, List.nodup_cons] at h1
   rcases List.mem_cons.1 h with rfl | h
   · have e : leftC (updC y p.1 v) ds = leftC y ds := by
       unfold leftC
       congr 1
       refine List.filter_congr fun q hq => ?_
       rw [updC_ne y v (fun e => h1.1 (by rw [← e]; exact List.mem_map_of_mem hq))]
     unfold leftC at e ⊢
     rw [List.filter_cons, List.filter_cons, updC_same, hn]
     rw [if_pos (by rfl), if_neg (by simp), List.length_cons, e]
   · have hne : q.1 ≠ p.1 := fun e => h1.1 (by rw [e]; exact List.mem_map_of_mem h)
     have ih := leftC_upd v h h1.2 hn
     unfold leftC at ih ⊢
     rw [List.filter_cons, List.filter_cons, updC_ne y v hne]
     split
     · rw [List.length_cons, List.length_cons, ih]
     · exact ih
def closedB (md : Region.Mode) (ops : Array Oper) (ds s : List (Nat × Tmp)) : Bool :=
  s.all fun r => match ops[r.1]? with
    | none => true
    | some o => o.after.all fun e => !Region.binds md e || ds.all fun q => !(q.1 == e.on) || s.contains q
def Cls (md : Region.Mode) (ops : Array Oper) (ds : List (Nat × Tmp)) (y : Nat → Option Value) : Prop :=
  ∀ r, r ∈ ds → (y r.1).isSome = true → ∀ o, ops[r.1]? = some o → ∀ e, e ∈ o.after → Region.binds md e = true → ∀ q, q ∈ ds → q.1 = e.on → (y q.1).isSome = true
theorem Cls.closed {ds : List (Nat × Tmp)} {y : Nat → Option Value} (h : Cls md ops ds y) : closedB md ops ds (ds.filter fun p => (y p.1).isSome) = true := by
 unfold closedB
 rw [List.all_eq_true]
 intro r hr
 obtain ⟨hr1, hr2⟩ := List.mem_filter.1 hr
 cases ho : ops[r.1]? with
 | none => rfl
 | some o =>
  show (o.after.all fun e => !Region.binds md e || ds.all fun q => !(q.1 == e.on) || (ds.filter fun p => (y p.1).isSome).contains q) = true
  rw [Array.all_eq_true']
  intro e he
  cases hb : Region.binds md e with
  | false => rfl
  | true =>
   show (false || _) = true
   rw [Bool.false_or, List.all_eq_true]
   intro q hq
   by_cases e' : q.1 = e.on
   · have := h r hr1 hr2 o ho e he hb q hq e'
     rw [List.contains_iff_mem.2 (List.mem_filter.2 ⟨hq, this⟩), Bool.or_true]
   · rw [show (q.1 == e.on) = false from by simpa using e']; rfl
def readyF (md : Region.Mode) (ops : Array Oper) (ds : List (Nat × Tmp)) (fs : List Nat) (b : Nat) (l : Array Bool) : Bool :=
  (subsC ds).all fun s => s.length == ds.length || !closedB md ops ds s || (let r := Region.ready md ops (setAll l s); match fs.find? fun q => r.contains q with
    | some q => Region.free md ops (setAll l s) q && !(q == b) && ds.any fun p => p.1 == q
    | none => !r.isEmpty && r.all fun i => ds.any fun p => p.1 == i && !s.contains p)
theorem wpAnyB_cloudF (ds : List (Nat × Tmp)) (fs : List Nat) (I : (Nat → Option Value) → World → Prop) {fuel : Nat} {l : Array Bool} {a : Act}
    (h1 : (ds.map Prod.fst).Nodup) (h2 : (ds.map Prod.snd).Nodup) (hs : Region.noSelect ops = true) (hr : readyF md ops ds fs b l = true) (hQ : ∀ c a (d : Tmp) v w, Q (.panic c) (a.put (some d) v) w → Q (.panic c) a w) (hS : ∀ y w, I y w → S w)
    (hstep : ∀ p, p ∈ ds → ∀ y w, y p.1 = none → (∀ q, q ∈ ds → (y q.1).isSome = (listC y ds l).getD q.1 true) → p.1 ∈ Region.ready md ops (listC y ds l) → I y w →
      if fs.contains p.1 then ∃ o v, ops[p.1]? = some o ∧ o.dst = some p.2 ∧ Yields P ops o v (putC y ds a) ∧ I (updC y p.1 v) w
      else wpOp P ops Q p.1 (fun a' w' => ∃ v, a' = (putC y ds a).put (some p.2) v ∧ I (updC y p.1 v) w') (putC y ds a) w)
    (hl : ∀ q, q ∈ ds → l.getD q.1 true = false)
    (hend : ∀ y w, (∀ p, p ∈ ds → (y p.1).isSome = true) → I y w → wpAnyB P md ops Q b S fuel (setAll l ds) (putC y ds a) w) :
    ∀ (m : Nat) (y : Nat → Option Value) (w : World), leftC y ds = m → Cls md ops ds y → I y w → wpAnyB P md ops Q b S (fuel + m) (listC y ds l) (putC y ds a) w := by
  intro m
  induction m with
  | zero =>
   intro y w hm hcl hI
   have hall := leftC_zero hm
   have e : listC y ds l = setAll l ds := by rw [listC_filter, List.filter_eq_self.2 hall]
   rw [e]
   exact hend y w hall hI
  | succ m ih =>
   intro y w hm hcl hI
   have hsub := List.all_eq_true.1 hr _ (filter_subsC (fun p : Nat × Tmp => (y p.1).isSome) ds)
   have hlen : (ds.filter fun p => (y p.1).isSome).length ≠ ds.length := by
    intro he
    have h3 : ds.filter (fun p => (y p.1).isSome) = ds := by
     have := (List.filter_sublist (p := fun p : Nat × Tmp => (y p.1).isSome) (l := ds)).eq_of_length he
     exact this
    rw [List.filter_eq_self] at h3
    have h4 : leftC y ds = 0 := by
     unfold leftC
     rw [List.filter_eq_nil_iff.2 (fun p hp => by rw [h3 p hp]; simp)]; rfl
    omega
   rw [hcl.closed, Bool.or_eq_true, Bool.or_eq_true] at hsub
   rcases hsub with (hsub | hsub) | hsub
   · exact absurd (by simpa using hsub) hlen
   · cases hsub
   rw [← listC_filter] at hsub
   dsimp only at hsub
   have hlc : ∀ (ds' : List (Nat × Tmp)) (l' : Array Bool) (q : Nat × Tmp), (∀ r, r ∈ ds' → r.1 = q.1 → (y r.1).isSome = true → False) → l'.getD q.1 true = false → (listC y ds' l').getD q.1 true = false := by
    intro ds'
    induction ds' with
    | nil => intro l' q _ h; exact h
    | cons r ds' ih2 =>
     intro l' q hq h
     refine ih2 _ q (fun r' hr' => hq r' (by simp [hr'])) ?_
     by_cases hrs : (y r.1).isSome = true
     · rw [if_pos hrs, getD_set_ne true (fun e => hq r (by simp) e hrs)]
       exact h
     · rw [if_neg hrs]; exact h
   have hlt : ∀ (ds' : List (Nat × Tmp)) (l' : Array Bool) (q : Nat × Tmp), l'.getD q.1 true = true → (listC y ds' l').getD q.1 true = true := by
    intro ds'
    induction ds' with
    | nil => intro l' q h; exact h
    | cons r ds' ih2 =>
     intro l' q h
     refine ih2 _ q ?_
     split
     · by_cases e : r.1 = q.1
       · rw [e]; simp [Array.getElem?_setIfInBounds]; split <;> simp
       · rw [getD_set_ne true e]; exact h
     · exact h
   have hlg : ∀ (ds' : List (Nat × Tmp)) (l' : Array Bool) (q : Nat × Tmp), q ∈ ds' → (y q.1).isSome = true → (listC y ds' l').getD q.1 true = true := by
    intro ds'
    induction ds' with
    | nil => intro l' q h; cases h
    | cons r ds' ih2 =>
     intro l' q h hs
     rcases List.mem_cons.1 h with rfl | h
     · refine hlt ds' _ q ?_
       rw [if_pos hs]; simp [Array.getElem?_setIfInBounds]; split <;> simp
     · exact ih2 _ q h hs
   have hsome : ∀ q, q ∈ ds → (y q.1).isSome = (listC y ds l).getD q.1 true := by
    intro q hq
    cases hs : (y q.1).isSome with
    | true => rw [hlg ds l q hq hs]
    | false => rw [hlc ds l q (fun r _ he hs' => by rw [he, hs] at hs'; cases hs') (hl q hq)]
   have hnone : ∀ p, p ∈ ds → p.1 ∈ Region.ready md ops (listC y ds l) → y p.1 = none := by
    intro p hp hpr
    have h5 := (mem_ready.1 hpr).1
    rw [← hsome p hp] at h5
    cases hy : y p.1 with
    | none => rfl
    | some v => rw [hy] at h5; cases h5
   have hcls : ∀ (p : Nat × Tmp) (v : Value), p ∈ ds → p.1 ∈ Region.ready md ops (listC y ds l) → Cls md ops ds (updC y p.1 v) := by
    intro p v hp hpr r hr hrs o ho e he hb q hq hqe
    by_cases e1 : q.1 = p.1
    · rw [e1, updC_same]; rfl
    · rw [updC_ne y v e1]
      by_cases e2 : r.1 = p.1
      · obtain ⟨_, o', ho', hall⟩ := mem_ready.1 hpr
        rw [e2, ho'] at ho
        cases ho
        have h8 := hall e he hb
        rw [hsome q hq, hqe]
        rw [Array.getD_eq_getD_getElem?] at h8 ⊢
        cases hx : (listC y ds l)[e.on]? with
        | none => rw [hx] at h8; cases h8
        | some z => rw [hx] at h8; exact h8
      · rw [updC_ne y v e2] at hrs
        exact hcl r hr hrs o ho e he hb q hq hqe
   cases hf : fs.find? (fun q => (Region.ready md ops (listC y ds l)).contains q) with
   | some q =>
    rw [hf] at hsub
    simp only [Bool.and_eq_true, Bool.not_eq_true', beq_eq_false_iff_ne] at hsub
    obtain ⟨⟨hfree, hqb⟩, hin⟩ := hsub
    obtain ⟨p, hp, hpq⟩ := List.any_eq_true.1 hin
    have hpq' : p.1 = q := by simpa using hpq
    subst hpq'
    have hpr : p.1 ∈ Region.ready md ops (listC y ds l) := by have := List.find?_some hf; simpa using this
    have hpf : fs.contains p.1 = true := by have := List.mem_of_find?_eq_some hf; simpa using this
    have hyn := hnone p hp hpr
    have h6 := hstep p hp y w hyn hsome hpr hI
    rw [if_pos hpf] at h6
    obtain ⟨o, v, ho, hd, hY, hI'⟩ := h6
    refine wpAnyB_firstP ho (Region.noSelect_spec hs) (fun c a w h => hQ c a p.2 v w (by rw [hd] at h; exact h)) hqb (fuel + m) _ _ w (Region.free_spec ho hfree) hpr hY (fun _ => hS _ _ hI) ?_
    rw [hd, listC_upd y v ds l p hp h1, putC_upd y v ds a p hp h1 h2]
    exact ih _ w (by have := leftC_upd v hp h1 hyn; omega) (hcls p v hp hpr) hI'
   | none =>
    rw [hf] at hsub
    simp only [Bool.and_eq_true, Bool.not_eq_true', List.isEmpty_eq_false_iff] at hsub
    obtain ⟨hne, hin⟩ := hsub
    refine ⟨fun h0 => absurd h0 hne, fun i hi => ?_⟩
    have hi' := List.all_eq_true.1 hin i hi
    obtain ⟨p, hp, hpi⟩ := List.any_eq_true.1 hi'
    simp only [Bool.and_eq_true, beq_iff_eq, Bool.not_eq_true'] at hpi
    obtain ⟨rfl, hns⟩ := hpi
    have hyn := hnone p hp hi
    have hnf : ¬ fs.contains p.1 = true := by
     intro hc
     have h7 := List.find?_eq_none.1 hf p.1 (by simpa using hc)
     exact h7 (by simpa using hi)
    have h6 := hstep p hp y w hyn hsome hi hI
    rw [if_neg hnf] at h6
    refine wpOp_mono ?_ h6
    rintro a' w' ⟨v, rfl, hI'⟩
    refine ⟨fun _ => hS _ _ hI', ?_⟩
    rw [listC_upd y v ds l p hp h1, putC_upd y v ds a p hp h1 h2]
    exact ih _ w' (by have := leftC_upd v hp h1 hyn; omega) (hcls p v hp hi) hI'
structure OpW (P : Program) (o : Oper) (a : Act) (w : World) (K : Act → World → Prop) (Q : Exit → Act → World → Prop) : Prop where
  out : Oper.wp P o a w K Q
theorem wpOp_bare {i : Nat} (dst : Option Tmp) (op : Op) (ty : TypeId) {K : Act → World → Prop} {a : Act} {w : World} (hi : isBare ops i dst op ty)
    (h : ∀ K' : Act → World → Prop, RowKit.Hid (∀ a w, K a w → K' a w) → OpW P (bareOp dst op ty) a w K' Q) : wpOp P ops Q i K a w := by
  obtain ⟨o, ho, rfl, h1, h2, h3⟩ := hi
  refine wpOp_step ho (fun K' hK' => ?_)
  rw [if_pos (by simp [Region.wanted, h3])]
  have h4 := (h K' (Lh hK')).out
  unfold Oper.wp at h4 ⊢
  rw [exec_bare (dst := o.dst) h1 h2]
  exact h4
theorem putC_none : ∀ (ds : List (Nat × Tmp)) (a : Act), putC (fun _ => none) ds a = a
  | [], _ => rfl
  | p :: ds, a => by
   show putC (fun _ => none) ds (a.put (some p.2) (a.eval (.tmp p.2))) = a
   have e : a.put (some p.2) (a.eval (.tmp p.2)) = a := by
    unfold Act.put Act.eval
    cases a with
    | mk tmps defers =>
     simp only
     congr 1
     apply Array.ext
     · simp
     · intro i hi1 hi2
       rw [Array.getElem_setIfInBounds]
       split
       · next e => subst e; simp [Array.getD, hi2]
       · rfl
   rw [e, putC_none ds a]
theorem listC_none : ∀ (ds : List (Nat × Tmp)) (l : Array Bool), listC (fun _ => none) ds l = l
  | [], _ => rfl
  | p :: ds, l => by
   show listC (fun _ => none) ds (if ((none : Option Value)).isSome then _ else l) = l
   rw [if_neg (by simp), listC_none ds l]
theorem leftC_none (ds : List (Nat × Tmp)) : leftC (fun _ => none) ds = ds.length := by
 show (ds.filter fun _ => true).length = ds.length
 rw [List.filter_eq_self.2 (fun p _ => rfl)]
theorem wpAnyB_cloud0 (ds : List (Nat × Tmp)) (fs : List Nat) (I : (Nat → Option Value) → World → Prop) {f fuel : Nat} {l : Array Bool} {a : Act} {w : World} (hf : f = fuel + ds.length)
    (h1 : (ds.map Prod.fst).Nodup) (h2 : (ds.map Prod.snd).Nodup) (hs : Region.noSelect ops = true) (hr : readyF md ops ds fs b l = true) (hl : (ds.all fun q => l.getD q.1 true == false) = true) (hQ : ∀ c a (d : Tmp) v w, Q (.panic c) (a.put (some d) v) w → Q (.panic c) a w) (hS : ∀ y w, I y w → S w)
    (hI : I (fun _ => none) w)
    (hstep : ∀ p, p ∈ ds → ∀ y w, y p.1 = none → (∀ q, q ∈ ds → (y q.1).isSome = (listC y ds l).getD q.1 true) → p.1 ∈ Region.ready md ops (listC y ds l) → I y w →
      if fs.contains p.1 then ∃ o v, ops[p.1]? = some o ∧ o.dst = some p.2 ∧ Yields P ops o v (putC y ds a) ∧ I (updC y p.1 v) w
      else wpOp P ops Q p.1 (fun a' w' => ∃ v, a' = (putC y ds a).put (some p.2) v ∧ I (updC y p.1 v) w') (putC y ds a) w)
    (hend : ∀ y w, (∀ p, p ∈ ds → (y p.1).isSome = true) → I y w → wpAnyB P md ops Q b S fuel (setAll l ds) (putC y ds a) w) : wpAnyB P md ops Q b S f l a w := by
  have h := wpAnyB_cloudF ds fs I h1 h2 hs hr hQ hS hstep (fun q hq => by simpa using List.all_eq_true.1 hl q hq) hend ds.length (fun _ => none) w (leftC_none ds) (fun r _ hrs => by cases hrs) hI
  rw [listC_none, putC_none] at h
  rw [hf]
  exact h
theorem yields_bare {i : Nat} {dst : Tmp} (op : Op) (ty : TypeId) {v : Value} {a : Act} {R : Value → Prop} (hi : isBare ops i (some dst) op ty) (h : ∀ w, (execOp a.eval (bareOp (some dst) op ty)).run P w = .ok (.value v) w) (hR : R v) :
    ∃ o u, ops[i]? = some o ∧ o.dst = some dst ∧ Yields P ops o u a ∧ R u := by
  obtain ⟨o, ho, hd, h1, h2, h3⟩ := hi
  exact ⟨o, v, ho, hd, .inl ⟨by simp [Region.wanted, h3], fun w => by rw [exec_bare (dst := some dst) h1 h2]; exact h w⟩, hR⟩
theorem takeF {fs : List Nat} {i : Nat} {A B : Prop} (h : fs.contains i = true) (hA : A) : if fs.contains i then A else B := by rw [if_pos h]; exact hA
theorem takeN {fs : List Nat} {i : Nat} {A B : Prop} (h : fs.contains i = false) (hB : B) : if fs.contains i then A else B := by rw [if_neg (by rw [h]; simp)]; exact hB
theorem ready_after {i j : Nat} {l : Array Bool} {o : Oper} (ho : ops[i]? = some o) (h : i ∈ Region.ready md ops l) (hj : (o.after.any fun e => Region.binds md e && e.on == j) = true) : l.getD j false = true := by
 obtain ⟨_, o', ho', hall⟩ := mem_ready.1 h
 rw [ho] at ho'
 cases ho'
 obtain ⟨e, he, hx⟩ := Array.any_eq_true'.1 hj
 simp only [Bool.and_eq_true, beq_iff_eq] at hx
 rw [← hx.2]
 exact hall e he hx.1
theorem depC {ds : List (Nat × Tmp)} {y : Nat → Option Value} {l : Array Bool} {i j : Nat} {d : Tmp} {o : Oper} (hy : ∀ q, q ∈ ds → (y q.1).isSome = (listC y ds l).getD q.1 true) (hq : (j, d) ∈ ds) (hrd : i ∈ Region.ready md ops (listC y ds l)) (ho : ops[i]? = some o)
    (hj : (o.after.any fun e => Region.binds md e && e.on == j) = true) : ∃ v, y j = some v := by
  have h1 := ready_after ho hrd hj
  have h2 := hy _ hq
  have h3 : (listC y ds l).getD j true = true := by
   rw [Array.getD_eq_getD_getElem?] at h1 ⊢
   cases he : (listC y ds l)[j]? with
   | none => rfl
   | some b => rw [he] at h1; exact h1
  rw [h3] at h2
  exact Option.isSome_iff_exists.1 h2
theorem eval_putC_not {y : Nat → Option Value} : ∀ (ds : List (Nat × Tmp)) (a : Act) (d : Tmp), d ∉ ds.map Prod.snd → (putC y ds a).eval (.tmp d) = a.eval (.tmp d)
  | [], _, _, _ => rfl
  | p :: ds, a, d, h => by
   show (putC y ds (a.put (some p.2) _)).eval (.tmp d) = _
   rw [eval_putC_not ds _ d (fun hm => h (by simp at hm ⊢; exact .inr hm)), eval_put_ne a _ (fun e => h (by simp [e]))]
theorem size_put (a : Act) (d : Option Tmp) (v : Value) : (a.put d v).tmps.size = a.tmps.size := by
 cases d <;> simp [Act.put]
theorem eval_put_same (a : Act) (d : Tmp) (v : Value) (h : d < a.tmps.size) : (a.put (some d) v).eval (.tmp d) = v := by
 simp [Act.put, Act.eval, h]
theorem eval_putC {y : Nat → Option Value} {j : Nat} {d : Tmp} {v : Value} : ∀ (ds : List (Nat × Tmp)) (a : Act), (j, d) ∈ ds → (ds.map Prod.snd).Nodup → y j = some v → d < a.tmps.size → (putC y ds a).eval (.tmp d) = v
  | [], _, h, _, _, _ => by cases h
  | p :: ds, a, h, hn, hv, hd => by
   rw [List.map_cons, List.nodup_cons] at hn
   rcases List.mem_cons.1 h with h | h
   · subst h
     show (putC y ds (a.put (some d) ((y j).getD (a.eval (.tmp d))))).eval (.tmp d) = v
     rw [eval_putC_not ds _ d hn.1, hv, eval_put_same _ _ _ hd]; rfl
   · exact eval_putC ds _ h hn.2 hv (by rw [size_put]; exact hd)
theorem wp_of_run {o : Oper} {a : Act} {w w' : World} {v : Value} {K : Act → World → Prop} (h : (execOp a.eval o).run P w = .ok (.value v) w') (hk : K (a.put o.dst v) w') : OpW P o a w K Q := by
 refine ⟨?_⟩
 unfold Oper.wp; rw [h]; exact hk
theorem wp_of_enter {o : Oper} {a : Act} {w w' : World} {f : FuncId} {args : Array Value} {R : Ending → World → Prop} {K : Act → World → Prop} (h : (execOp a.eval o).run P w = .ok (.enter f args) w') (hc : Calls P f args w' R)
    (hk : ∀ e w'', R e w'' → ∃ v, e = .returned v ∧ K (a.put o.dst v) w'') : OpW P o a w K Q := by
  refine ⟨?_⟩
  unfold Oper.wp
  rw [h, Oper.upon_enter]
  refine hc.mono fun e w'' hr => ?_
  obtain ⟨v, rfl, hK⟩ := hk e w'' hr
  exact hK
end
open Go Go.RowKit Num Sha
def vcell (av bv : Value) (one : Bool) : List Value := [av, bv, .bool one, .int .u64 0, .int .u64 0, .int .u64 0, .int .u64 0, .int .u64 0, .int .u64 0, .int .u64 0, .int .u64 0]
structure SlB (wd wk wr : World) (one : Bool) (mv av bv rv : Value) : Prop where
  kd : Below wd.heap.size wd wr
  km : ∀ j, wd.heap.size < j → j < wk.heap.size → wr.heap[j]? = wk.heap[j]?
  zk : wd.heap.size < wk.heap.size
  zr : wk.heap.size < wr.heap.size
  v : Cl wr wd.heap.size (vcell av bv one)
  r : Cl wr wk.heap.size [mv, rv]
theorem SlB.under {wd wk wr w' : World} {one : Bool} {mv av bv rv : Value} (h : SlB wd wk wr one mv av bv rv) (hb : Below (wk.heap.size + 1) wr w') : SlB wd wk w' one mv av bv rv :=
  ⟨h.kd.trans (hb.mono (by have := h.zk; omega)), fun j h1 h2 => (hb.block j (by omega)).trans (h.km j h1 h2), h.zk, Nat.lt_of_lt_of_le h.zr hb.size, h.v.keepN hb (by have := h.zk; omega), h.r.keepN hb (by omega)⟩
theorem SlB.keep {wd wk wr w' : World} {one : Bool} {mv av bv rv : Value} (h : SlB wd wk wr one mv av bv rv) (hb : Below wr.heap.size wr w') : SlB wd wk w' one mv av bv rv := h.under (hb.mono h.zr)
theorem SlB.drew {wd wk wr : World} {one : Bool} {mv av bv rv : Value} (h : SlB wd wk wr one mv av bv rv) : SlB wd wk wr.drew one mv av bv rv := h.keep (Below.refl _ _).drew
theorem SlB.alloc {wd wk wr : World} {one : Bool} {mv av bv rv : Value} (h : SlB wd wk wr one mv av bv rv) (o : Obj) : SlB wd wk (wr.alloc o) one mv av bv rv := h.keep ((Below.refl _ _).alloc (Nat.le_refl _) o)
theorem heap_setCell_ne (w : World) (p : Addr) (u : Value) (j : Nat) (h : j ≠ p.block) : (w.setCell p u).heap[j]? = w.heap[j]? :=
  by
  unfold World.setCell
  simp only [Array.getElem?_modify]
  rw [if_neg (fun e => h e.symm)]
theorem SlB.set0 {wd wk wr : World} {one : Bool} {mv av bv rv : Value} (h : SlB wd wk wr one mv av bv rv) (u : Value) : SlB wd wk (wr.setCell ⟨wd.heap.size, 0, none⟩ u) one mv u bv rv :=
  ⟨h.kd.setCell (Nat.le_refl _) _, fun j h1 h2 => (heap_setCell_ne _ _ _ _ (by show j ≠ wd.heap.size; omega)).trans (h.km j h1 h2), h.zk, by simpa using h.zr, h.v.set 0 u (by simp [vcell]) rfl, h.r.far _ _ (by have := h.zk; show wd.heap.size ≠ _; omega)⟩
theorem SlB.set1 {wd wk wr : World} {one : Bool} {mv av bv rv : Value} (h : SlB wd wk wr one mv av bv rv) (u : Value) : SlB wd wk (wr.setCell ⟨wd.heap.size, 1, none⟩ u) one mv av u rv :=
  ⟨h.kd.setCell (Nat.le_refl _) _, fun j h1 h2 => (heap_setCell_ne _ _ _ _ (by show j ≠ wd.heap.size; omega)).trans (h.km j h1 h2), h.zk, by simpa using h.zr, h.v.set 1 u (by simp [vcell]) rfl, h.r.far _ _ (by have := h.zk; show wd.heap.size ≠ _; omega)⟩
theorem SlB.setR {wd wk wr : World} {one : Bool} {mv av bv rv : Value} (h : SlB wd wk wr one mv av bv rv) (u : Value) : SlB wd wk (wr.setCell ⟨wk.heap.size, 1, none⟩ u) one mv av bv u :=
  ⟨h.kd.setCell (by have := h.zk; show wd.heap.size ≤ wk.heap.size; omega) _, fun j h1 h2 => (heap_setCell_ne _ _ _ _ (by show j ≠ wk.heap.size; omega)).trans (h.km j h1 h2), h.zk, by simpa using h.zr, h.v.far _ _ (by have := h.zk; show wk.heap.size ≠ _; omega), h.r.set 1 u (by simp) rfl⟩
structure SlR (wk wr : World) (av bv rv : Value) (i : Nat) (bs : List (Int × Int)) (ps : List Bt) (ns : List Int) : Prop where
  ha : wr.ownsRow (wk.heap.size + 1) 75 2 av i (flatS bs)
  hb : wr.ownsRow (wk.heap.size + 1) 31 8 bv i (flatB ps)
  hr : wr.ownsRow (wk.heap.size + 1) 22 1 rv i (ns.map (Value.int .u64))
theorem SlR.keep {wk wr w' : World} {av bv rv : Value} {i : Nat} {bs : List (Int × Int)} {ps : List Bt} {ns : List Int} (h : SlR wk wr av bv rv i bs ps ns) (hb : Below wr.heap.size wr w') : SlR wk w' av bv rv i bs ps ns :=
  ⟨owns_below2 h.ha hb, owns_below2 h.hb hb, owns_below2 h.hr hb⟩
theorem SlR.nil (wk wr : World) : SlR wk wr (.slice none 0 0) (.slice none 0 0) (.slice none 0 0) 0 [] [] [] := ⟨World.ownsRow_nil _ _ _ _, World.ownsRow_nil _ _ _ _, World.ownsRow_nil _ _ _ _⟩
def Apt (av bv rv : Value) (B : Nat) : Prop := (∀ k, av.ownBlock = some k → k < B) ∧ (∀ k, bv.ownBlock = some k → k < B) ∧ (∀ k, rv.ownBlock = some k → k < B)
theorem SlR.apt {wk wr : World} {av bv rv : Value} {i : Nat} {bs : List (Int × Int)} {ps : List Bt} {ns : List Int} (h : SlR wk wr av bv rv i bs ps ns) : Apt av bv rv wr.heap.size :=
  ⟨fun k hk => (World.ownsRow.lt h.ha k hk).2, fun k hk => (World.ownsRow.lt h.hb k hk).2, fun k hk => (World.ownsRow.lt h.hr k hk).2⟩
theorem apt_ne {v : Value} {B : Nat} (h : ∀ k, v.ownBlock = some k → k < B) : v.ownBlock = none ∨ v.ownBlock ≠ some B := by
 cases hv : v.ownBlock with
 | none => exact .inl rfl
 | some k => exact .inr (fun e => by injection e with e; have := h k hv; omega)
theorem SlR.gro {wk wr w' : World} {av bv rv : Value} {i B : Nat} {bs : List (Int × Int)} {ps : List Bt} {ns : List Int} (h : SlR wk wr av bv rv i bs ps ns) (hg : Gro B wr w') (ha : Apt av bv rv B) : SlR wk w' av bv rv i bs ps ns :=
  ⟨World.ownsRow.kept h.ha hg (apt_ne ha.1), World.ownsRow.kept h.hb hg (apt_ne ha.2.1), World.ownsRow.kept h.hr hg (apt_ne ha.2.2)⟩
theorem SlB.gro {wd wk wr w' : World} {one : Bool} {mv av bv rv : Value} {B : Nat} (h : SlB wd wk wr one mv av bv rv) (hg : Gro B wr w') (hB : wk.heap.size < B) : SlB wd wk w' one mv av bv rv := h.under (hg.blw hB h.zr)
def Chn (Z : Nat) (e : TypeId) (sz : Nat) (w : World) (v0 : Value) (i : Nat) (xs us : List Value) (y3 y4 : Option Value) : Prop :=
  (y4 = none → w.ownsRow Z e sz v0 i xs) ∧ (∀ v, y3 = some v → ∃ B, v = .slice (some ⟨B, 0, none⟩) 1 1 ∧ (y4 = none → w.ownsRow Z e sz v 1 us)) ∧ (∀ v, y4 = some v → w.ownsRow Z e sz v (i + 1) (xs ++ us))
theorem Chn.kept {Z : Nat} {e : TypeId} {sz : Nat} {w w' : World} {v0 : Value} {i : Nat} {xs us : List Value} {y3 y4 : Option Value} (h : Chn Z e sz w v0 i xs us y3 y4) {Z' sz' k' : Nat} {e' : TypeId} {v' : Value} {xs' : List Value}
    (h' : w.ownsRow Z' e' sz' v' k' xs') (hne : e' ≠ e) (hg : w.grownBy w' v'.ownBlock) : Chn Z e sz w' v0 i xs us y3 y4 :=
  ⟨fun h4 => World.ownsRow.kept (h.1 h4) hg (own_diffN h' (h.1 h4) hne), fun v hv => by
   obtain ⟨B, rfl, hB⟩ := h.2.1 v hv
   exact ⟨B, rfl, fun h4 => World.ownsRow.kept (hB h4) hg (own_diffN h' (hB h4) hne)⟩, fun v hv => World.ownsRow.kept (h.2.2 v hv) hg (own_diffN h' (h.2.2 v hv) hne)⟩
theorem Chn.keep {Z : Nat} {e : TypeId} {sz : Nat} {w w' : World} {v0 : Value} {i : Nat} {xs us : List Value} {y3 y4 : Option Value} (h : Chn Z e sz w v0 i xs us y3 y4) (hb : Below w.heap.size w w') : Chn Z e sz w' v0 i xs us y3 y4 :=
  ⟨fun h4 => owns_below2 (h.1 h4) hb, fun v hv => by
   obtain ⟨B, rfl, hB⟩ := h.2.1 v hv
   exact ⟨B, rfl, fun h4 => owns_below2 (hB h4) hb⟩, fun v hv => owns_below2 (h.2.2 v hv) hb⟩
theorem Chn.lit {Z : Nat} {e : TypeId} {sz : Nat} {w : World} {v0 : Value} {i : Nat} {xs us : List Value} {y3 y4 : Option Value} (h : Chn Z e sz w v0 i xs us y3 y4) (hz : Z ≤ w.heap.size) (hs : us.length = sz) :
    Chn Z e sz (w.alloc (.cells us.toArray e)) v0 i xs us (some (.slice (some ⟨w.heap.size, 0, none⟩) 1 1)) y4 :=
  ⟨fun h4 => owns_alloc2 (h.1 h4) _, fun v hv => by
   cases hv
   refine ⟨_, rfl, fun _ => ?_⟩
   have := World.ownsRow_lit (base := Z) (e := e) (size := sz) w us.toArray 1 hz (by unfold maxLen; omega) (by simp [hs])
   simpa using this, fun v hv => owns_alloc2 (h.2.2 v hv) _⟩
theorem Chn.app {Z : Nat} {e : TypeId} {sz : Nat} {w w' : World} {v0 v' : Value} {i : Nat} {xs us : List Value} {y3 : Option Value} (h : Chn Z e sz w v0 i xs us y3 none) (hown : w'.ownsRow Z e sz v' (i + 1) (xs ++ us)) :
    Chn Z e sz w' v0 i xs us y3 (some v') :=
  ⟨fun h4 => (by cases h4), fun v hv => by
   obtain ⟨B, rfl, -⟩ := h.2.1 v hv
   exact ⟨B, rfl, fun h4 => by cases h4⟩, fun v hv => by cases hv; exact hown⟩
theorem Chn.start {Z : Nat} {e : TypeId} {sz : Nat} {w : World} {v0 : Value} {i : Nat} {xs us : List Value} (h : w.ownsRow Z e sz v0 i xs) : Chn Z e sz w v0 i xs us none none :=
  ⟨fun _ => h, fun v hv => (by cases hv), fun v hv => (by cases hv)⟩
theorem own_cells0 {w : World} {Z : Nat} {e : TypeId} {sz n B cap : Nat} {us : List Value} (h : w.ownsRow Z e sz (.slice (some ⟨B, 0, none⟩) n cap) n us) : ∀ j u, us[j]? = some u → w.cell? ((⟨B, 0, none⟩ : Addr).add j) = some u :=
  World.ownsRow.cells (g := B) h rfl
theorem ShI.blocks {q : IntKind} {w w' : World} {a : Option Addr} {n : Nat} {xs : List Int} (h : ShI q w a n xs) (hb : ∀ s o, a = some ⟨s, o, none⟩ → w'.heap[s]? = w.heap[s]? ∧ s < w'.heap.size) : ShI q w' a n xs := by
 rcases h with h | ⟨s, o, rfl, h1, h2, h3⟩
 · exact .inl h
 · exact .inr ⟨s, o, rfl, h1, (hb s o rfl).2, fun i hi => (World.cell?_of_block (w := w) (a := ⟨s, o + i, none⟩) (hb s o rfl).1).trans (h3 i hi)⟩
theorem wp_storeCl {P : Program} {w : World} {o : Oper} {a : Act} {K : Act → World → Prop} {Q : Exit → Act → World → Prop} (t : TypeId) (p v : Operand) (b k : Nat) (l vs m : List Value) (ho : o.op = .store t p v)
    (hp : a.eval p = .pointer (some ⟨b, k, none⟩)) (hv : a.eval v = .agg vs.toArray) (hi : (P.info? t).map (·.size) = some vs.length) (h1 : ∀ u, u ∈ vs → u.oneCell' = true) (hC : Cl w b l) (hk : k + vs.length ≤ l.length) (hm : l.take k ++ vs ++ l.drop (k + vs.length) = m)
    (h : ∀ w', Cl w' b m → Gro b w w' → w'.heap.size = w.heap.size → K (a.put o.dst undef) w') : o.wp P a w K Q := by
  refine wp_store_mid t p v ho b k vs.toArray hp hv (by simpa using hC.there k vs.length hk) (by simpa using hi) (all_oneCell_toArray h1) ?_
  exact h _ (hC.puts k vs hk hm) (Gro.puts k vs b (.inl rfl) w k (Gro.refl _ _)) (size_setCells b vs k w)
theorem Cl.grown {w w' : World} {B : Nat} {l : List Value} {v : Value} (h : Cl w B l) (hg : w.grownBy w' v.ownBlock) (ha : ∀ k, v.ownBlock = some k → k < B) : Cl w' B l := by
 have hb := hg.block B h.lt (fun e => by have := ha B e.symm; omega)
 exact ⟨fun i u hu => (World.cell?_of_block (w := w) (a := ⟨B, i, none⟩) hb).trans (h.c i u hu), fun i => (World.frozen?_of_block (w := w) (a := ⟨B, i, none⟩) hb).trans (h.f i), Nat.lt_of_lt_of_le h.lt hg.size⟩
/-! ### Single operations -/
section
variable (ρ : Operand → Value) (w : World)
theorem run_al_sealed (dst : Option Tmp) (ty : TypeId) : (execOp ρ (bareOp dst (.alloc 75) ty)).run Tryz.prog w = .ok (.value (.pointer (some ⟨w.heap.size, 0, none⟩))) (w.alloc (.cells #[.int .u64 0, .int .u64 0] 75)) := by
 unfold bareOp
 go_simp
theorem run_al_bit (dst : Option Tmp) (ty : TypeId) : (execOp ρ (bareOp dst (.alloc 31) ty)).run Tryz.prog w = .ok (.value (.pointer (some ⟨w.heap.size, 0, none⟩))) (w.alloc (.cells #[.int .u64 0, .int .u64 0, .int .u64 0, .int .u64 0, .int .u64 0, .int .u64 0, .int .u64 0, .int .u64 0] 31)) := by
 unfold bareOp
 go_simp
theorem run_move (dst : Option Tmp) (ty : TypeId) (x : Operand) {v : Value} (h : ρ x = v) : (execOp ρ (bareOp dst (.move x) ty)).run Tryz.prog w = .ok (.value v) w := by
 subst h; rfl
theorem run_extract (dst : Option Tmp) (ty : TypeId) (x : Operand) (i : Nat) {vs : Array Value} {v : Value} (h : ρ x = .tuple vs) (hv : vs[i]? = some v) : (execOp ρ (bareOp dst (.extract x i) ty)).run Tryz.prog w = .ok (.value v) w := by
 unfold bareOp
 simp [execOp, Instr.extract, h, hv, Sem.run_bind, Sem.run]
theorem run_fa0 (dst : Option Tmp) (ty : TypeId) (x : Operand) {b : Nat} (h : ρ x = .pointer (some ⟨b, 0, none⟩)) : (execOp ρ (bareOp dst (.fieldAddr 33 x 0) ty)).run Tryz.prog w = .ok (.value (.pointer (some ⟨b, 0, none⟩))) w := by
 unfold bareOp
 go_simp
theorem run_lit_sealed (dst : Option Tmp) (ty : TypeId) (x : Operand) (a b : Int) (h : ρ x = .agg #[.int .u64 a, .int .u64 b]) : (execOp ρ (bareOp dst (.buildSlice 27 1 #[(0, x)]) ty)).run Tryz.prog w = .ok (.value (.slice (some ⟨w.heap.size, 0, none⟩) 1 1)) (w.alloc (.cells #[.int .u64 a, .int .u64 b] 75)) := by
 unfold bareOp
 go_simp
theorem run_lit_bit (dst : Option Tmp) (ty : TypeId) (x : Operand) (z : Bt) (h : ρ x = .agg z.vs.toArray) : (execOp ρ (bareOp dst (.buildSlice 28 1 #[(0, x)]) ty)).run Tryz.prog w = .ok (.value (.slice (some ⟨w.heap.size, 0, none⟩) 1 1)) (w.alloc (.cells z.vs.toArray 31)) := by
 unfold Bt.vs at h ⊢
 unfold bareOp
 go_simp
theorem run_lit_u64 (dst : Option Tmp) (ty : TypeId) (x : Operand) (a : Int) (h : ρ x = .int .u64 a) : (execOp ρ (bareOp dst (.buildSlice 34 1 #[(0, x)]) ty)).run Tryz.prog w = .ok (.value (.slice (some ⟨w.heap.size, 0, none⟩) 1 1)) (w.alloc (.cells #[.int .u64 a] 22)) := by
 unfold bareOp
 go_simp
theorem run_lit_u8 (dst : Option Tmp) (ty : TypeId) (x : Operand) (a : Int) (h : ρ x = .int .u8 a) : (execOp ρ (bareOp dst (.buildSlice 80 1 #[(0, x)]) ty)).run Tryz.prog w = .ok (.value (.slice (some ⟨w.heap.size, 0, none⟩) 1 1)) (w.alloc (.cells #[.int .u8 a] 5)) := by
 unfold bareOp
 go_simp
theorem run_call (dst : Option Tmp) (ty : TypeId) (f : FuncId) {fn : Func} (hf : Tryz.prog.funcs[f]? = some fn) {xs : Array Operand} {ts : Array TypeId} {vs : Array Value} (hv : xs.map ρ = vs) (hρ : ρ (.func f) = .func (.func f) #[] #[]) (hb : fn.body.isSome = true) (hn : (fn.name == "runtime.NumGoroutine") = false) :
    (execOp ρ (bareOp dst (.call { callee := .value (.func f), args := xs, argTypes := ts }) ty)).run Tryz.prog w = .ok (.enter f vs) w := by
  have hn' : ¬ fn.name = "runtime.NumGoroutine" := by simpa using hn
  have hb' : ¬ fn.body = none := by intro h; rw [h] at hb; cases hb
  subst hv
  unfold bareOp
  simp [execOp, resolve, Deferred.ofValue, invoke, callFunc, hρ, hf, hb', hn', Sem.run_bind, program, Sem.run]
end
theorem wp_push_u64 {w : World} {o : Oper} {a : Act} {K : Act → World → Prop} {Q : Exit → Act → World → Prop} (s x : Operand) (ho : o.op = .call { callee := .builtin .append, args := #[s, x], argTypes := #[34, 34] })
    (base n b : Nat) (v : Value) (xs : List Value) (z : Int) (hs : a.eval s = v) (hx : a.eval x = .slice (some ⟨b, 0, none⟩) 1 1) (hown : w.ownsRow base 22 1 v n xs) (hc : ∀ j u, ([.int .u64 z] : List Value)[j]? = some u → w.cell? ((⟨b, 0, none⟩ : Addr).add j) = some u) (hn : n ≤ 1000000) (hb : base ≤ w.heap.size)
    (h : ∀ v' w', w'.ownsRow base 22 1 v' (n + 1) (xs ++ [.int .u64 z]) → w.grownBy w' v.ownBlock → K (a.put o.dst v') w') : o.wp Tryz.prog a w K Q := by
  obtain ⟨j0, ji, jz0, jz1, jz2⟩ := info_parts (P := Tryz.prog) (e := 22) (z := .int .u64 0) (size := 1) (bytes := 8) (by kernel_rfl)
  exact wp_append_own w s x 34 ho base 22 j0 _ 1 8 Tryz.underlying34 ji jz0 jz1 jz2 rfl (by decide) v n xs hs hown ⟨b, 0, none⟩ 1 1 [.int .u64 z] hx rfl hc (fun u hu => by simp at hu; subst hu; rfl) (by unfold maxLen; omega) (by omega) hb (fun v' w' h1 h2 _ => h v' w' h1 h2)
open Go Go.RowKit Num Sha
def sealE (P Q G y n : Int) (ms : List Int) (one : Bool) : Int := if chkB P Q G y n ≠ 0 then chkB P Q G y n else if markedS n ms = true ∧ (one = true → ms.length ≤ 1) then 0 else 2
def manyS (n : Int) (one : Bool) : Nat := 4 * n.toNat + if one then 3 else 0
def SealR (w : World) (P Q G y n : Int) (ms : List Int) (one : Bool) (seed : List Int) (e : Ending) (w' : World) : Prop := Below w.heap.size w w' ∧
  ((sealE P Q G y n ms one ≠ 0 ∧ e = .returned (.tuple #[.agg #[.slice none 0 0, .slice none 0 0, .bool false, .int .u64 0, .int .u64 0, .int .u64 0, .int .u64 0, .int .u64 0, .int .u64 0, .int .u64 0, .int .u64 0], .agg #[.slice none 0 0, .slice none 0 0], .int .i64 (sealE P Q G y n ms one)])) ∨ (sealE P Q G y n ms one = 0 ∧
    ((sampS seed Q (manyS n one) = none ∧ e = .returned (.tuple #[.agg #[.slice none 0 0, .slice none 0 0, .bool false, .int .u64 0, .int .u64 0, .int .u64 0, .int .u64 0, .int .u64 0, .int .u64 0, .int .u64 0, .int .u64 0], .agg #[.slice none 0 0, .slice none 0 0], .int .i64 6])) ∨
      ∃ d V R, sampS seed Q (manyS n one) = some d ∧ e = .returned (.tuple #[V.v, R.v, .int .i64 0]) ∧ SealV P Q G y n.toNat ms one d V R ∧ VtIn w' V ∧ RvIn w' R)))
theorem markedFrom_len {n : Int} : ∀ (l : List Int) (last : Int), last < n → markedFrom n last l = true → (l.length : Int) ≤ n - 1 - last
  | [], last, h, _ => by simp; omega
  | i :: l, last, h, hm => by
   unfold markedFrom at hm
   split at hm
   · cases hm
   · have := markedFrom_len l i (by omega) hm
     rw [List.length_cons]; omega
theorem markedS_len {n : Int} {l : List Int} (h0 : 0 ≤ n) (h : markedS n l = true) : (l.length : Int) ≤ n := by
 have := markedFrom_len l (-1) (by omega) h; omega
theorem res_seal {w : World} {fn : Func} {c d t : Tmp} {b b' : Nat} {a0 a1 a2 a3 : Option Addr} {n0 n1 c0 c1 n2 n3 c2 c3 : Nat} {o2 : Bool} {i3 i4 i5 i6 i7 i8 i9 i10 : Int} {v : Value} (h : fn.results = #[.cell c 33, .cell d 36, .tmp t])
    (hp : Cl w b [.slice a0 n0 c0, .slice a1 n1 c1, .bool o2, .int .u64 i3, .int .u64 i4, .int .u64 i5, .int .u64 i6, .int .u64 i7, .int .u64 i8, .int .u64 i9, .int .u64 i10]) (hq : Cl w b' [.slice a2 n2 c2, .slice a3 n3 c3]) (tmps : Array Value)
    (hc : tmps[c]?.getD undef = .pointer (some ⟨b, 0, none⟩)) (hd : tmps[d]?.getD undef = .pointer (some ⟨b', 0, none⟩)) (ht : tmps[t]?.getD undef = v) : (results fn tmps).run Tryz.prog w = .ok (.tuple #[.agg #[.slice a0 n0 c0, .slice a1 n1 c1, .bool o2, .int .u64 i3, .int .u64 i4, .int .u64 i5, .int .u64 i6, .int .u64 i7, .int .u64 i8, .int .u64 i9, .int .u64 i10], .agg #[.slice a2 n2 c2, .slice a3 n3 c3], v]) w := by
  obtain ⟨⟨q0, q1, q2, q3, q4, q5, q6, q7, q8, q9, q10⟩, -⟩ := hp.k11
  have r0 := hq.c 0 _ rfl
  have r1 := hq.c 1 _ rfl
  simp [results, h, hc, hd, ht, go_sem, q0, q1, q2, q3, q4, q5, q6, q7, q8, q9, q10, r0, r1]
set_option maxHeartbeats 8000000 in
theorem seal_bad {P Q G y n : Int} {a : Option Addr} {m c : Nat} {ms seed : List Int} {one : Bool} (w : World) (hT : Tabs w) (hP : 0 ≤ P) (hQ : 0 ≤ Q) (hG : 0 ≤ G) (hy : 0 ≤ y) (hS : ShI .i64 w a m ms) (hkc : a = none → c = 0) (hu : ∀ x, x ∈ ms → -9223372036854775808 ≤ x ∧ x ≤ 9223372036854775807) (hm : m ≤ 9223372036854775807) (hsl : seed.length = 32) (hby : ByteL seed) (hE : sealE P Q G y n ms one ≠ 0) :
    Calls Tryz.prog 6 #[.agg #[.int .u64 P, .int .u64 Q, .int .u64 G], .int .u64 y, .int .i64 n, .slice a m c, .bool one, .agg (valV .u8 seed)] w (SealR w P Q G y n ms one seed) := by
  have HE := Lh hE
  clear hE
  have HT := Lh hT
  have HS := Lh hS
  have HU := Lh hu
  have HLM := Lh hS.len
  have HSL := Lh hsl
  have HBY := Lh hby
  have F_g := Lh (show Cl ((((w.alloc (.cells #[.int .u64 P, .int .u64 Q, .int .u64 G] 24)).alloc (.cells (valV .u8 seed) 26)).alloc (.cells #[.slice none 0 0, .slice none 0 0, .bool false, .int .u64 0, .int .u64 0, .int .u64 0, .int .u64 0, .int .u64 0, .int .u64 0, .int .u64 0, .int .u64 0] 33)).alloc (.cells #[.slice none 0 0, .slice none 0 0] 36)) w.heap.size [.int .u64 P, .int .u64 Q, .int .u64 G] from (((Cl.at w [.int .u64 P, .int .u64 Q, .int .u64 G] _ w.heap.size rfl).alloc _).alloc _).alloc _)
  have F_s := Lh (show Arr .u8 ((((w.alloc (.cells #[.int .u64 P, .int .u64 Q, .int .u64 G] 24)).alloc (.cells (valV .u8 seed) 26)).alloc (.cells #[.slice none 0 0, .slice none 0 0, .bool false, .int .u64 0, .int .u64 0, .int .u64 0, .int .u64 0, .int .u64 0, .int .u64 0, .int .u64 0, .int .u64 0] 33)).alloc (.cells #[.slice none 0 0, .slice none 0 0] 36)) (w.heap.size + 1) seed from (((Arr.new .u8 (w.alloc (.cells #[.int .u64 P, .int .u64 Q, .int .u64 G] 24)) seed 26 (w.heap.size + 1) (by simp)).keep ((Below.refl _ _).alloc (Nat.le_refl _) _)).keep ((Below.refl _ _).alloc (Nat.le_refl _) _)))
  have F_o := Lh (show Cl ((((w.alloc (.cells #[.int .u64 P, .int .u64 Q, .int .u64 G] 24)).alloc (.cells (valV .u8 seed) 26)).alloc (.cells #[.slice none 0 0, .slice none 0 0, .bool false, .int .u64 0, .int .u64 0, .int .u64 0, .int .u64 0, .int .u64 0, .int .u64 0, .int .u64 0, .int .u64 0] 33)).alloc (.cells #[.slice none 0 0, .slice none 0 0] 36)) (w.heap.size + 1 + 1) [.slice none 0 0, .slice none 0 0, .bool false, .int .u64 0, .int .u64 0, .int .u64 0, .int .u64 0, .int .u64 0, .int .u64 0, .int .u64 0, .int .u64 0] from (Cl.at ((w.alloc (.cells #[.int .u64 P, .int .u64 Q, .int .u64 G] 24)).alloc (.cells (valV .u8 seed) 26)) [.slice none 0 0, .slice none 0 0, .bool false, .int .u64 0, .int .u64 0, .int .u64 0, .int .u64 0, .int .u64 0, .int .u64 0, .int .u64 0, .int .u64 0] _ (w.heap.size + 1 + 1) (by simp)).alloc _)
  have F_q := Lh (show Cl ((((w.alloc (.cells #[.int .u64 P, .int .u64 Q, .int .u64 G] 24)).alloc (.cells (valV .u8 seed) 26)).alloc (.cells #[.slice none 0 0, .slice none 0 0, .bool false, .int .u64 0, .int .u64 0, .int .u64 0, .int .u64 0, .int .u64 0, .int .u64 0, .int .u64 0, .int .u64 0] 33)).alloc (.cells #[.slice none 0 0, .slice none 0 0] 36)) (w.heap.size + 1 + 1 + 1) [.slice none 0 0, .slice none 0 0] from Cl.at (((w.alloc (.cells #[.int .u64 P, .int .u64 Q, .int .u64 G] 24)).alloc (.cells (valV .u8 seed) 26)).alloc (.cells #[.slice none 0 0, .slice none 0 0, .bool false, .int .u64 0, .int .u64 0, .int .u64 0, .int .u64 0, .int .u64 0, .int .u64 0, .int .u64 0, .int .u64 0] 33)) [.slice none 0 0, .slice none 0 0] _ (w.heap.size + 1 + 1 + 1) (by simp))
  have HBW := Lh (show Below w.heap.size w ((((w.alloc (.cells #[.int .u64 P, .int .u64 Q, .int .u64 G] 24)).alloc (.cells (valV .u8 seed) 26)).alloc (.cells #[.slice none 0 0, .slice none 0 0, .bool false, .int .u64 0, .int .u64 0, .int .u64 0, .int .u64 0, .int .u64 0, .int .u64 0, .int .u64 0, .int .u64 0] 33)).alloc (.cells #[.slice none 0 0, .slice none 0 0] 36)) from ((((Below.refl _ _).alloc (Nat.le_refl _) _).alloc (by simp) _).alloc (by simp <;> omega) _).alloc (by simp <;> omega) _)
  have g0 := F_g.o.c 0 _ rfl
  have g1 := F_g.o.c 1 _ rfl
  have g2 := F_g.o.c 2 _ rfl
  clear hT hS hu hsl hby
  go_enter Tryz.func6, Tryz.ntmps6
  go_wp2_with fail
  clear g0 g1 g2
  refine (bcheck_any _ hP hQ hG hy).mono ?_
  rintro e w1 ⟨rfl, hb1⟩
  replace F_g := Lh (F_g.o.keep hb1)
  replace F_s := Lh (F_s.o.keep hb1)
  replace F_o := Lh (F_o.o.keep hb1)
  replace F_q := Lh (F_q.o.keep hb1)
  replace HBW := Lh (HBW.o.trans (hb1.mono HBW.o.size))
  clear hb1
  by_cases hk : chkB P Q G y n = 0
  case neg =>
   have HK := Lh (show sealE P Q G y n ms one = chkB P Q G y n by rw [sealE, if_pos hk])
   go_wp2_with (first
     | (refine wpL_storeCl rfl 33 (.tmp 12) (.tmp 36) (w.heap.size + 1 + 1) 0 _ [.slice none 0 0, .slice none 0 0, .bool false, .int .u64 0, .int .u64 0, .int .u64 0, .int .u64 0, .int .u64 0, .int .u64 0, .int .u64 0, .int .u64 0] [.slice none 0 0, .slice none 0 0, .bool false, .int .u64 0, .int .u64 0, .int .u64 0, .int .u64 0, .int .u64 0, .int .u64 0, .int .u64 0, .int .u64 0] rfl rfl rfl rfl (by kernel_rfl) (by intro u hu; simp at hu; rcases hu with rfl | rfl | rfl | rfl | rfl | rfl | rfl | rfl | rfl | rfl | rfl <;> rfl) F_o.o (by simp) rfl ?_
        intro wx hc8 hg8 hz8
        have F_x := Lh hc8
        have HGx := Lh hg8
        have hz_wx := hz8
        clear hc8 hg8 hz8)
     | (refine wpL_storeCl rfl 36 (.tmp 13) (.tmp 37) (w.heap.size + 1 + 1 + 1) 0 _ [.slice none 0 0, .slice none 0 0] [.slice none 0 0, .slice none 0 0] rfl rfl rfl rfl (by kernel_rfl) (by intro u hu; simp at hu; rcases hu with rfl | rfl <;> rfl) (F_q.o.gro HGx.o (by omega)) (by simp) rfl ?_
        intro wz hc8 hg8 hz8
        have F_z := Lh hc8
        have HGz := Lh hg8
        have hz_wz := hz8
        clear hc8 hg8 hz8))
   refine bodyPost_ret (res_seal rfl (F_x.o.gro HGz.o (by omega)) F_z.o _ rfl rfl rfl) rfl ?_
   exact ⟨(HBW.o.trans (HGx.o.blw (n := w.heap.size) (by omega) HBW.o.size)).trans (HGz.o.blw (n := w.heap.size) (by omega) (by have := HBW.o.size; omega)), .inl ⟨HE.o, by rw [HK.o]; rfl⟩⟩
  case pos =>
   have HK := Lh hk
   rw [hk]
   clear hk
   go_wp2_with fail
   refine (marked_any _ (HS.o.keep HBW.o) (by omega)).mono ?_
   rintro e w3 ⟨rfl, rfl⟩
   obtain ⟨mk, hmk⟩ : ∃ mk, markedS n ms = mk := ⟨_, rfl⟩
   have HMK := Lh hmk
   rw [hmk]
   clear hmk
   cases mk with
   | false =>
    have HR := Lh (show sealE P Q G y n ms one = 2 by rw [sealE, if_neg (by rw [HK.o]; simp), if_neg (by rw [HMK.o]; simp)])
    go_wp2_with (first
      | (refine wpL_storeCl rfl 33 (.tmp 12) (.tmp 51) (w.heap.size + 1 + 1) 0 _ [.slice none 0 0, .slice none 0 0, .bool false, .int .u64 0, .int .u64 0, .int .u64 0, .int .u64 0, .int .u64 0, .int .u64 0, .int .u64 0, .int .u64 0] [.slice none 0 0, .slice none 0 0, .bool false, .int .u64 0, .int .u64 0, .int .u64 0, .int .u64 0, .int .u64 0, .int .u64 0, .int .u64 0, .int .u64 0] rfl rfl rfl rfl (by kernel_rfl) (by intro u hu; simp at hu; rcases hu with rfl | rfl | rfl | rfl | rfl | rfl | rfl | rfl | rfl | rfl | rfl <;> rfl) F_o.o (by simp) rfl ?_
         intro wx hc8 hg8 hz8
         have F_x := Lh hc8
         have HGx := Lh hg8
         have hz_wx := hz8
         clear hc8 hg8 hz8)
      | (refine wpL_storeCl rfl 36 (.tmp 13) (.tmp 52) (w.heap.size + 1 + 1 + 1) 0 _ [.slice none 0 0, .slice none 0 0] [.slice none 0 0, .slice none 0 0] rfl rfl rfl rfl (by kernel_rfl) (by intro u hu; simp at hu; rcases hu with rfl | rfl <;> rfl) (F_q.o.gro HGx.o (by omega)) (by simp) rfl ?_
         intro wz hc8 hg8 hz8
         have F_z := Lh hc8
         have HGz := Lh hg8
         have hz_wz := hz8
         clear hc8 hg8 hz8))
    refine bodyPost_ret (res_seal rfl (F_x.o.gro HGz.o (by omega)) F_z.o _ rfl rfl rfl) rfl ?_
    exact ⟨(HBW.o.trans (HGx.o.blw (n := w.heap.size) (by omega) HBW.o.size)).trans (HGz.o.blw (n := w.heap.size) (by omega) (by have := HBW.o.size; omega)), .inl ⟨HE.o, by rw [HR.o]; rfl⟩⟩
   | true =>
    cases one with
    | false => exact absurd (by rw [sealE, if_neg (by rw [HK.o]; simp), if_pos ⟨HMK.o, by simp⟩]) HE.o
    | true =>
     by_cases hl : m ≤ 1
     · exact absurd (by rw [sealE, if_neg (by rw [HK.o]; simp), if_pos ⟨HMK.o, fun _ => by rw [← HLM.o]; exact hl⟩]) HE.o
     · have d1 : decide ((1 : Int) < (m : Int)) = true := decide_eq_true (by omega)
       have d2 : decide ((m : Int) > 1) = true := decide_eq_true (by omega)
       have HR := Lh (show sealE P Q G y n ms true = 2 by rw [sealE, if_neg (by rw [HK.o]; simp), if_neg (by rintro ⟨-, h⟩; have := h rfl; rw [← HLM.o] at this; exact hl this)])
       clear hl
       go_wp2_with (first
         | (refine wpL_storeCl rfl 33 (.tmp 12) (.tmp 51) (w.heap.size + 1 + 1) 0 _ [.slice none 0 0, .slice none 0 0, .bool false, .int .u64 0, .int .u64 0, .int .u64 0, .int .u64 0, .int .u64 0, .int .u64 0, .int .u64 0, .int .u64 0] [.slice none 0 0, .slice none 0 0, .bool false, .int .u64 0, .int .u64 0, .int .u64 0, .int .u64 0, .int .u64 0, .int .u64 0, .int .u64 0, .int .u64 0] rfl rfl rfl rfl (by kernel_rfl) (by intro u hu; simp at hu; rcases hu with rfl | rfl | rfl | rfl | rfl | rfl | rfl | rfl | rfl | rfl | rfl <;> rfl) F_o.o (by simp) rfl ?_
            intro wx hc8 hg8 hz8
            have F_x := Lh hc8
            have HGx := Lh hg8
            have hz_wx := hz8
            clear hc8 hg8 hz8)
         | (refine wpL_storeCl rfl 36 (.tmp 13) (.tmp 52) (w.heap.size + 1 + 1 + 1) 0 _ [.slice none 0 0, .slice none 0 0] [.slice none 0 0, .slice none 0 0] rfl rfl rfl rfl (by kernel_rfl) (by intro u hu; simp at hu; rcases hu with rfl | rfl <;> rfl) (F_q.o.gro HGx.o (by omega)) (by simp) rfl ?_
            intro wz hc8 hg8 hz8
            have F_z := Lh hc8
            have HGz := Lh hg8
            have hz_wz := hz8
            clear hc8 hg8 hz8))
       refine bodyPost_ret (res_seal rfl (F_x.o.gro HGz.o (by omega)) F_z.o _ rfl rfl rfl) rfl ?_
       exact ⟨(HBW.o.trans (HGx.o.blw (n := w.heap.size) (by omega) HBW.o.size)).trans (HGz.o.blw (n := w.heap.size) (by omega) (by have := HBW.o.size; omega)), .inl ⟨HE.o, by rw [HR.o]; rfl⟩⟩
end Go.Proofs.YtlbldpkgnonbpaaGreatDoor
