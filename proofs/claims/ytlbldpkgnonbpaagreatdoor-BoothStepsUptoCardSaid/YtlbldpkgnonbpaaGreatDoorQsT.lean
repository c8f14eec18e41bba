/- twin of the empty booth; a vote appended. -/
import Derived.Test.YtlbldpkgnonbpaaGreatDoorQsS
import Derived.Test.YtlbldpkgnonbpaaGreatDoorQsC
import Derived.Test.YtlbldpkgnonbpaaGreatDoorQsM
set_option linter.unusedSimpArgs false
set_option linter.unusedVariables false
set_option maxRecDepth 100000
namespace Go.Proofs.YtlbldpkgnonbpaaGreatDoor
open Go Go.RowKit Num Sha
theorem res_booth1 {w : World} {fn : Func} {c : Tmp} {b : Nat} {a0 a1 a2 : Option Addr} {n0 n1 n2 c0 c1 c2 : Nat} (h : fn.results = #[.cell c 55]) (hp : Cl w b [.slice a0 n0 c0, .slice a1 n1 c1, .slice a2 n2 c2]) (tmps : Array Value)
 (hc : tmps[c]?.getD undef = .pointer (some ⟨b, 0, none⟩)) : (results fn tmps).run Tryz.prog w = .ok (.agg #[.slice a0 n0 c0, .slice a1 n1 c1, .slice a2 n2 c2]) w := by
 have q0 := hp.c 0 _ rfl
 have q1 := hp.c 1 _ rfl
 have q2 := hp.c 2 _ rfl
 simp [results, h, hc, go_sem, q0, q1, q2]
theorem res_booth2 {w : World} {fn : Func} {c t : Tmp} {b : Nat} {a0 a1 a2 : Option Addr} {n0 n1 n2 c0 c1 c2 : Nat} {v : Value} (h : fn.results = #[.cell c 55, .tmp t]) (hp : Cl w b [.slice a0 n0 c0, .slice a1 n1 c1, .slice a2 n2 c2]) (tmps : Array Value)
 (hc : tmps[c]?.getD undef = .pointer (some ⟨b, 0, none⟩)) (ht : tmps[t]?.getD undef = v) : (results fn tmps).run Tryz.prog w = .ok (.tuple #[.agg #[.slice a0 n0 c0, .slice a1 n1 c1, .slice a2 n2 c2], v]) w := by
 have q0 := hp.c 0 _ rfl
 have q1 := hp.c 1 _ rfl
 have q2 := hp.c 2 _ rfl
 simp [results, h, hc, ht, go_sem, q0, q1, q2]
open Go Go.RowKit Num Sha
theorem own_slice {w : World} {base : Nat} {e : TypeId} {sz n : Nat} {v : Value} {xs : List Value} (h : w.ownsRow base e sz v n xs) : ∃ a c, v = .slice a n c := by
 rcases h.2 with ⟨h1, h2⟩ | ⟨g, cap, cur, h1, -⟩
 · subst h2; exact ⟨_, _, h1⟩
 · exact ⟨_, _, h1⟩
theorem ShS.slc {w : World} {a : Option Addr} {n : Nat} {ps : List (Int × Int)} {p : Addr} {u : Value} {a0 : Option Addr} {n0 c0 : Nat} (h : ShS w a n ps) (hp : w.cell? p = some (.slice a0 n0 c0)) : ShS (w.setCell p u) a n ps := by
 rcases h with h | ⟨s, o, h0, h1, h2, h3⟩
 · exact .inl h
 · refine .inr ⟨s, o, h0, h1, by simpa using h2, fun i hi => ⟨?_, ?_⟩⟩
   · rw [World.cell?_setCell_other _ _ _ _ (fun e => by rw [e, (h3 i hi).1] at hp; injection hp with hp; cases hp)]; exact (h3 i hi).1
   · rw [World.cell?_setCell_other _ _ _ _ (fun e => by rw [e, (h3 i hi).2] at hp; injection hp with hp; cases hp)]; exact (h3 i hi).2
theorem ShB.slc {w : World} {a : Option Addr} {n : Nat} {ps : List Bt} {p : Addr} {u : Value} {a0 : Option Addr} {n0 c0 : Nat} (h : ShB w a n ps) (hp : w.cell? p = some (.slice a0 n0 c0)) : ShB (w.setCell p u) a n ps := by
 rcases h with h | ⟨s, o, h0, h1, h2, h3⟩
 · exact .inl h
 · refine .inr ⟨s, o, h0, h1, by simpa using h2, fun i hi k v hv => ?_⟩
   have hc := h3 i hi k v hv
   obtain ⟨x, rfl⟩ : ∃ x, v = υ x := by
    have hm := List.mem_of_getElem? hv
    simp [Bt.vs] at hm
    rcases hm with rfl | rfl | rfl | rfl | rfl | rfl | rfl | rfl <;> exact ⟨_, rfl⟩
   rw [World.cell?_setCell_other _ _ _ _ (fun e => by rw [e, hc] at hp; injection hp with hp; cases hp)]; exact hc
theorem VtIn.slc {w : World} {V : Vt} {p : Addr} {u : Value} {a0 : Option Addr} {n0 c0 : Nat} (h : VtIn w V) (hp : w.cell? p = some (.slice a0 n0 c0)) : VtIn (w.setCell p u) V :=
 ⟨h.h1.slc hp, h.u1, h.k1, h.h2.slc hp, h.u2, h.k2, h.uz⟩
def CastR (w : World) (e' : Int) (V : Vt) (e : Ending) (w' : World) : Prop := Below w.heap.size w w' ∧ ((e' ≠ 0 ∧ e = .returned (.tuple #[.agg #[.slice none 0 0, .slice none 0 0, .slice none 0 0], .int .i64 e'])) ∨
 (e' = 0 ∧ ∃ (a : Option Addr) (c : Nat) (U : Vt), e = .returned (.tuple #[.agg #[.slice a 1 c, .slice none 0 0, .slice none 0 0], .int .i64 0]) ∧ VtIn w' U ∧ SameV U V ∧ w'.ownsRow w.heap.size 33 11 (.slice a 1 c) 1 U.vs))
open Go Go.RowKit Num Sha
def ChalR (w : World) (P Q G y n e' : Int) (V : Vt) (R : Rv) (e : Ending) (w' : World) : Prop := Below w.heap.size w w' ∧ ((e' ≠ 0 ∧ e = .returned (.tuple #[.agg #[.slice none 0 0, .slice none 0 0, .slice none 0 0], .int .i64 e'])) ∨
 (e' = 0 ∧ ((¬ (rangeP Q n.toNat R ∧ matchP P G y n.toNat V R) ∧ e = .returned (.tuple #[.agg #[.slice none 0 0, .slice none 0 0, .slice none 0 0], .int .i64 362])) ∨
   ((rangeP Q n.toNat R ∧ matchP P G y n.toNat V R) ∧ ∃ (a a' : Option Addr) (c c' : Nat), e = .returned (.tuple #[.agg #[.slice none 0 0, .slice a 1 c, .slice a' 1 c'], .int .i64 0])))))
open Go
section
variable {P : Program} {ops : Array Oper} {Q : Exit → Act → World → Prop} {md : Region.Mode} {b : Nat} {S : World → Prop}
def putC (y : Nat → Option Value) : List (Nat × Tmp) → Act → Act
 | [], a => a
 | p :: ds, a => putC y ds (a.put (some p.2) ((y p.1).getD (a.eval (.tmp p.2))))
def listC (y : Nat → Option Value) : List (Nat × Tmp) → Array Bool → Array Bool
 | [], l => l
 | p :: ds, l => listC y ds (if (y p.1).isSome then l.setIfInBounds p.1 true else l)
def updC (y : Nat → Option Value) (j : Nat) (v : Value) : Nat → Option Value := fun k => if k = j then some v else y k
@[simp] theorem updC_same (y : Nat → Option Value) (j : Nat) (v : Value) : updC y j v j = some v := by simp [updC]
theorem uS {y : Nat → Option Value} {k : Nat} {v r : Value} (hv : updC y k v k = some r) : v = r := Option.some.inj ((updC_same y k v).symm.trans hv)
theorem updC_ne (y : Nat → Option Value) {j k : Nat} (v : Value) (h : k ≠ j) : updC y j v k = y k := by simp [updC, h]
theorem uN {y : Nat → Option Value} {k q : Nat} {v r : Value} (hv : updC y k v q = some r) (h : q ≠ k := by decide) : y q = some r := (updC_ne y v h).symm.trans hv
theorem put_comm (a : Act) {d e : Tmp} (u v : Value) (h : d ≠ e) : (a.put (some d) u).put (some e) v = (a.put (some e) v).put (some d) u := by
 simp only [Act.put]
 rw [Array.setIfInBounds_comm _ _ h]
theorem put_twice (a : Act) (d : Tmp) (u v : Value) : (a.put (some d) u).put (some d) v = a.put (some d) v := by
 simp [Act.put]
theorem eval_put_ne (a : Act) {d e : Tmp} (u : Value) (h : d ≠ e) : (a.put (some d) u).eval (.tmp e) = a.eval (.tmp e) := by
 simp [Act.put, Act.eval, Array.getElem?_setIfInBounds, h]
theorem putC_put (y : Nat → Option Value) : ∀ (ds : List (Nat × Tmp)) (a : Act) (d : Tmp) (v : Value), d ∉ ds.map Prod.snd → putC y ds (a.put (some d) v) = (putC y ds a).put (some d) v
 | [], _, _, _, _ => rfl
 | p :: ds, a, d, v, h => by
  have hne : d ≠ p.2 := fun e => h (by simp [e])
  show putC y ds ((a.put (some d) v).put (some p.2) ((y p.1).getD ((a.put (some d) v).eval (.tmp p.2)))) = _
  rw [eval_put_ne a v hne, put_comm a v _ hne, putC_put y ds _ d v (fun hm => h (by simp at hm ⊢; exact .inr hm))]
  rfl
theorem putC_same {y y' : Nat → Option Value} : ∀ (ds : List (Nat × Tmp)) (a : Act), (∀ p, p ∈ ds → y p.1 = y' p.1) → putC y ds a = putC y' ds a
 | [], _, _ => rfl
 | p :: ds, a, h => by
  show putC y ds _ = putC y' ds _
  rw [h p (by simp)]
  exact putC_same ds _ (fun q hq => h q (by simp [hq]))
theorem putC_upd (y : Nat → Option Value) (v : Value) : ∀ (ds : List (Nat × Tmp)) (a : Act) (p : Nat × Tmp), p ∈ ds → (ds.map Prod.fst).Nodup → (ds.map Prod.snd).Nodup → (putC y ds a).put (some p.2) v = putC (updC y p.1 v) ds a
 | [], _, _, h, _, _ => by cases h
 | q :: ds, a, p, h, h1, h2 => by
  rw [List.map_cons, List.nodup_cons] at h1 h2
  rcases List.mem_cons.1 h with rfl | h
  · show (putC y ds (a.put (some p.2) ((y p.1).getD (a.eval (.tmp p.2))))).put (some p.2) v = putC (updC y p.1 v) ds (a.put (some p.2) ((updC y p.1 v p.1).getD (a.eval (.tmp p.2))))
    rw [updC_same, ← putC_put y ds _ p.2 v h2.1, put_twice]
    exact putC_same ds _ fun q hq => (updC_ne y v (fun e => h1.1 (by rw [← e]; exact List.mem_map_of_mem hq))).symm
  · have hne : q.1 ≠ p.1 := fun e => h1.1 (by rw [e]; exact List.mem_map_of_mem h)
    show (putC y ds (a.put (some q.2) ((y q.1).getD (a.eval (.tmp q.2))))).put (some p.2) v = putC (updC y p.1 v) ds (a.put (some q.2) ((updC y p.1 v q.1).getD (a.eval (.tmp q.2))))
    rw [updC_ne y v hne]
    exact putC_upd y v ds _ p h h1.2 h2.2
theorem listC_set (y : Nat → Option Value) : ∀ (ds : List (Nat × Tmp)) (l : Array Bool) (j : Nat), listC y ds (l.setIfInBounds j true) = (listC y ds l).setIfInBounds j true
 | [], _, _ => rfl
 | p :: ds, l, j => by
  show listC y ds (if (y p.1).isSome then (l.setIfInBounds j true).setIfInBounds p.1 true else l.setIfInBounds j true) = (listC y ds (if (y p.1).isSome then l.setIfInBounds p.1 true else l)).setIfInBounds j true
  rw [← listC_set y ds]
  by_cases hj : j = p.1
  · subst hj; split <;> simp
  · split
    · rw [Array.setIfInBounds_comm _ _ hj]
    · rfl
theorem listC_same {y y' : Nat → Option Value} : ∀ (ds : List (Nat × Tmp)) (l : Array Bool), (∀ p, p ∈ ds → y p.1 = y' p.1) → listC y ds l = listC y' ds l
 | [], _, _ => rfl
 | p :: ds, a, h => by
  show listC y ds _ = listC y' ds _
  rw [h p (by simp)]
  exact listC_same ds _ (fun q hq => h q (by simp [hq]))
theorem listC_upd (y : Nat → Option Value) (v : Value) : ∀ (ds : List (Nat × Tmp)) (l : Array Bool) (p : Nat × Tmp), p ∈ ds → (ds.map Prod.fst).Nodup → (listC y ds l).setIfInBounds p.1 true = listC (updC y p.1 v) ds l
 | [], _, _, h, _ => by cases h
 | q :: ds, l, p, h, h1 => by
  rw [List.map_cons, List.nodup_cons] at h1
  rcases List.mem_cons.1 h with rfl | h
  · show (listC y ds (if (y p.1).isSome then l.setIfInBounds p.1 true else l)).setIfInBounds p.1 true = listC (updC y p.1 v) ds (if (updC y p.1 v p.1).isSome then l.setIfInBounds p.1 true else l)
    rw [updC_same, ← listC_set y ds]
    have e : (if (y p.1).isSome then l.setIfInBounds p.1 true else l).setIfInBounds p.1 true = l.setIfInBounds p.1 true := by split <;> simp
    rw [e]
    exact listC_same ds _ fun q hq => (updC_ne y v (fun e => h1.1 (by rw [← e]; exact List.mem_map_of_mem hq))).symm
  · have hne : q.1 ≠ p.1 := fun e => h1.1 (by rw [e]; exact List.mem_map_of_mem h)
    show (listC y ds (if (y q.1).isSome then l.setIfInBounds q.1 true else l)).setIfInBounds p.1 true = listC (updC y p.1 v) ds (if (updC y p.1 v q.1).isSome then l.setIfInBounds q.1 true else l)
    rw [updC_ne y v hne]
    exact listC_upd y v ds _ p h h1.2
def subsC {α : Type} : List α → List (List α)
 | [] => [[]]
 | x :: l => subsC l ++ (subsC l).map (x :: ·)
theorem filter_subsC {α : Type} (f : α → Bool) : ∀ l : List α, l.filter f ∈ subsC l
 | [] => by simp [subsC]
 | x :: l => by
  have := filter_subsC f l
  rw [List.filter_cons]
  split <;> simp [subsC, this]
def setAll (l : Array Bool) : List (Nat × Tmp) → Array Bool
 | [] => l
 | p :: ds => setAll (l.setIfInBounds p.1 true) ds
theorem listC_filter (y : Nat → Option Value) : ∀ (ds : List (Nat × Tmp)) (l : Array Bool), listC y ds l = setAll l (ds.filter fun p => (y p.1).isSome)
 | [], _ => rfl
 | p :: ds, l => by
  show listC y ds (if (y p.1).isSome then l.setIfInBounds p.1 true else l) = _
  rw [listC_filter y ds, List.filter_cons]
  split <;> rfl
def readyC (md : Region.Mode) (ops : Array Oper) (ds : List (Nat × Tmp)) (l : Array Bool) : Bool :=
 (subsC ds).all fun s => s.length == ds.length || (let r := Region.ready md ops (setAll l s); !r.isEmpty && r.all fun i => ds.any fun p => p.1 == i && !s.contains p)
def leftC (y : Nat → Option Value) (ds : List (Nat × Tmp)) : Nat := (ds.filter fun p => !(y p.1).isSome).length
theorem leftC_zero {y : Nat → Option Value} {ds : List (Nat × Tmp)} (h : leftC y ds = 0) : ∀ p, p ∈ ds → (y p.1).isSome = true := by
 intro p hp
 have h1 : ds.filter (fun p => !(y p.1).isSome) = [] := List.eq_nil_of_length_eq_zero h
 rw [List.filter_eq_nil_iff] at h1
 have := h1 p hp
 cases hs : (y p.1).isSome with
 | true => rfl
 | false => rw [hs] at this; exact absurd rfl this
theorem leftC_upd {y : Nat → Option Value} (v : Value) : ∀ {ds : List (Nat × Tmp)} {p : Nat × Tmp}, p ∈ ds → (ds.map Prod.fst).Nodup → y p.1 = none → leftC y ds = leftC (updC y p.1 v) ds + 1
 | [], _, h, _, _ => by cases h
 | q :: ds, p, h, h1, hn => by
  rw [List.map_cons, List.nodup_cons] at h1
  rcases List.mem_cons.1 h with rfl | h
  · have e : leftC (updC y p.1 v) ds = leftC y ds := by
     unfold leftC
     congr 1
     refine List.filter_congr fun q hq => ?_
     rw [updC_ne y v (fun e => h1.1 (by rw [← e]; exact List.mem_map_of_mem hq))]
    unfold leftC at e ⊢
    rw [List.filter_cons, List.filter_cons, updC_same, hn]
    rw [if_pos (by rfl), if_neg (by simp), List.length_cons, e]
  · have hne : q.1 ≠ p.1 := fun e => h1.1 (by rw [e]; exact List.mem_map_of_mem h)
    have ih := leftC_upd v h h1.2 hn
    unfold leftC at ih ⊢
    rw [List.filter_cons, List.filter_cons, updC_ne y v hne]
    split
    · rw [List.length_cons, List.length_cons, ih]
    · exact ih
def closedB (md : Region.Mode) (ops : Array Oper) (ds s : List (Nat × Tmp)) : Bool :=
 s.all fun r => match ops[r.1]? with
  | none => true
  | some o => o.after.all fun e => !Region.binds md e || ds.all fun q => !(q.1 == e.on) || s.contains q
def Cls (md : Region.Mode) (ops : Array Oper) (ds : List (Nat × Tmp)) (y : Nat → Option Value) : Prop :=
 ∀ r, r ∈ ds → (y r.1).isSome = true → ∀ o, ops[r.1]? = some o → ∀ e, e ∈ o.after → Region.binds md e = true → ∀ q, q ∈ ds → q.1 = e.on → (y q.1).isSome = true
theorem Cls.closed {ds : List (Nat × Tmp)} {y : Nat → Option Value} (h : Cls md ops ds y) : closedB md ops ds (ds.filter fun p => (y p.1).isSome) = true := by
 unfold closedB
 rw [List.all_eq_true]
 intro r hr
 obtain ⟨hr1, hr2⟩ := List.mem_filter.1 hr
 cases ho : ops[r.1]? with
 | none => rfl
 | some o =>
  show (o.after.all fun e => !Region.binds md e || ds.all fun q => !(q.1 == e.on) || (ds.filter fun p => (y p.1).isSome).contains q) = true
  rw [Array.all_eq_true']
  intro e he
  cases hb : Region.binds md e with
  | false => rfl
  | true =>
   show (false || _) = true
   rw [Bool.false_or, List.all_eq_true]
   intro q hq
   by_cases e' : q.1 = e.on
   · have := h r hr1 hr2 o ho e he hb q hq e'
     rw [List.contains_iff_mem.2 (List.mem_filter.2 ⟨hq, this⟩), Bool.or_true]
   · rw [show (q.1 == e.on) = false from by simpa using e']; rfl
def readyF (md : Region.Mode) (ops : Array Oper) (ds : List (Nat × Tmp)) (fs : List Nat) (b : Nat) (l : Array Bool) : Bool :=
 (subsC ds).all fun s => s.length == ds.length || !closedB md ops ds s || (let r := Region.ready md ops (setAll l s); match fs.find? fun q => r.contains q with
   | some q => Region.free md ops (setAll l s) q && !(q == b) && ds.any fun p => p.1 == q
   | none => !r.isEmpty && r.all fun i => ds.any fun p => p.1 == i && !s.contains p)
theorem wpAnyB_cloudF (ds : List (Nat × Tmp)) (fs : List Nat) (I : (Nat → Option Value) → World → Prop) {fuel : Nat} {l : Array Bool} {a : Act}
 (h1 : (ds.map Prod.fst).Nodup) (h2 : (ds.map Prod.snd).Nodup) (hs : Region.noSelect ops = true) (hr : readyF md ops ds fs b l = true) (hQ : ∀ c a (d : Tmp) v w, Q (.panic c) (a.put (some d) v) w → Q (.panic c) a w) (hS : ∀ y w, I y w → S w)
 (hstep : ∀ p, p ∈ ds → ∀ y w, y p.1 = none → (∀ q, q ∈ ds → (y q.1).isSome = (listC y ds l).getD q.1 true) → p.1 ∈ Region.ready md ops (listC y ds l) → I y w →
   if fs.contains p.1 then ∃ o v, ops[p.1]? = some o ∧ o.dst = some p.2 ∧ Yields P ops o v (putC y ds a) ∧ I (updC y p.1 v) w
   else wpOp P ops Q p.1 (fun a' w' => ∃ v, a' = (putC y ds a).put (some p.2) v ∧ I (updC y p.1 v) w') (putC y ds a) w)
 (hl : ∀ q, q ∈ ds → l.getD q.1 true = false)
 (hend : ∀ y w, (∀ p, p ∈ ds → (y p.1).isSome = true) → I y w → wpAnyB P md ops Q b S fuel (setAll l ds) (putC y ds a) w) :
 ∀ (m : Nat) (y : Nat → Option Value) (w : World), leftC y ds = m → Cls md ops ds y → I y w → wpAnyB P md ops Q b S (fuel + m) (listC y ds l) (putC y ds a) w := by
 intro m
 induction m with
 | zero =>
  intro y w hm hcl hI
  have hall := leftC_zero hm
  have e : listC y ds l = setAll l ds := by rw [listC_filter, List.filter_eq_self.2 hall]
  rw [e]
  exact hend y w hall hI
 | succ m ih =>
  intro y w hm hcl hI
  have hsub := List.all_eq_true.1 hr _ (filter_subsC (fun p : Nat × Tmp => (y p.1).isSome) ds)
  have hlen : (ds.filter fun p => (y p.1).isSome).length ≠ ds.length := by
   intro he
   have h3 : ds.filter (fun p => (y p.1).isSome) = ds := by
    have := (List.filter_sublist (p := fun p : Nat × Tmp => (y p.1).isSome) (l := ds)).eq_of_length he
    exact this
   rw [List.filter_eq_self] at h3
   have h4 : leftC y ds = 0 := by
    unfold leftC
    rw [List.filter_eq_nil_iff.2 (fun p hp => by rw [h3 p hp]; simp)]; rfl
   omega
  rw [hcl.closed, Bool.or_eq_true, Bool.or_eq_true] at hsub
  rcases hsub with (hsub | hsub) | hsub
  · exact absurd (by simpa using hsub) hlen
  · cases hsub
  rw [← listC_filter] at hsub
  dsimp only at hsub
  have hlc : ∀ (ds' : List (Nat × Tmp)) (l' : Array Bool) (q : Nat × Tmp), (∀ r, r ∈ ds' → r.1 = q.1 → (y r.1).isSome = true → False) → l'.getD q.1 true = false → (listC y ds' l').getD q.1 true = false := by
   intro ds'
   induction ds' with
   | nil => intro l' q _ h; exact h
   | cons r ds' ih2 =>
    intro l' q hq h
    refine ih2 _ q (fun r' hr' => hq r' (by simp [hr'])) ?_
    by_cases hrs : (y r.1).isSome = true
    · rw [if_pos hrs, getD_set_ne true (fun e => hq r (by simp) e hrs)]
      exact h
    · rw [if_neg hrs]; exact h
  have hlt : ∀ (ds' : List (Nat × Tmp)) (l' : Array Bool) (q : Nat × Tmp), l'.getD q.1 true = true → (listC y ds' l').getD q.1 true = true := by
   intro ds'
   induction ds' with
   | nil => intro l' q h; exact h
   | cons r ds' ih2 =>
    intro l' q h
    refine ih2 _ q ?_
    split
    · by_cases e : r.1 = q.1
      · rw [e]; simp [Array.getElem?_setIfInBounds]; split <;> simp
      · rw [getD_set_ne true e]; exact h
    · exact h
  have hlg : ∀ (ds' : List (Nat × Tmp)) (l' : Array Bool) (q : Nat × Tmp), q ∈ ds' → (y q.1).isSome = true → (listC y ds' l').getD q.1 true = true := by
   intro ds'
   induction ds' with
   | nil => intro l' q h; cases h
   | cons r ds' ih2 =>
    intro l' q h hs
    rcases List.mem_cons.1 h with rfl | h
    · refine hlt ds' _ q ?_
      rw [if_pos hs]; simp [Array.getElem?_setIfInBounds]; split <;> simp
    · exact ih2 _ q h hs
  have hsome : ∀ q, q ∈ ds → (y q.1).isSome = (listC y ds l).getD q.1 true := by
   intro q hq
   cases hs : (y q.1).isSome with
   | true => rw [hlg ds l q hq hs]
   | false => rw [hlc ds l q (fun r _ he hs' => by rw [he, hs] at hs'; cases hs') (hl q hq)]
  have hnone : ∀ p, p ∈ ds → p.1 ∈ Region.ready md ops (listC y ds l) → y p.1 = none := by
   intro p hp hpr
   have h5 := (mem_ready.1 hpr).1
   rw [← hsome p hp] at h5
   cases hy : y p.1 with
   | none => rfl
   | some v => rw [hy] at h5; cases h5
  have hcls : ∀ (p : Nat × Tmp) (v : Value), p ∈ ds → p.1 ∈ Region.ready md ops (listC y ds l) → Cls md ops ds (updC y p.1 v) := by
   intro p v hp hpr r hr hrs o ho e he hb q hq hqe
   by_cases e1 : q.1 = p.1
   · rw [e1, updC_same]; rfl
   · rw [updC_ne y v e1]
     by_cases e2 : r.1 = p.1
     · obtain ⟨_, o', ho', hall⟩ := mem_ready.1 hpr
       rw [e2, ho'] at ho
       cases ho
       have h8 := hall e he hb
       rw [hsome q hq, hqe]
       rw [Array.getD_eq_getD_getElem?] at h8 ⊢
       cases hx : (listC y ds l)[e.on]? with
       | none => rw [hx] at h8; cases h8
       | some z => rw [hx] at h8; exact h8
     · rw [updC_ne y v e2] at hrs
       exact hcl r hr hrs o ho e he hb q hq hqe
  cases hf : fs.find? (fun q => (Region.ready md ops (listC y ds l)).contains q) with
  | some q =>
   rw [hf] at hsub
   simp only [Bool.and_eq_true, Bool.not_eq_true', beq_eq_false_iff_ne] at hsub
   obtain ⟨⟨hfree, hqb⟩, hin⟩ := hsub
   obtain ⟨p, hp, hpq⟩ := List.any_eq_true.1 hin
   have hpq' : p.1 = q := by simpa using hpq
   subst hpq'
   have hpr : p.1 ∈ Region.ready md ops (listC y ds l) := by have := List.find?_some hf; simpa using this
   have hpf : fs.contains p.1 = true := by have := List.mem_of_find?_eq_some hf; simpa using this
   have hyn := hnone p hp hpr
   have h6 := hstep p hp y w hyn hsome hpr hI
   rw [if_pos hpf] at h6
   obtain ⟨o, v, ho, hd, hY, hI'⟩ := h6
   refine wpAnyB_firstP ho (Region.noSelect_spec hs) (fun c a w h => hQ c a p.2 v w (by rw [hd] at h; exact h)) hqb (fuel + m) _ _ w (Region.free_spec ho hfree) hpr hY (fun _ => hS _ _ hI) ?_
   rw [hd, listC_upd y v ds l p hp h1, putC_upd y v ds a p hp h1 h2]
   exact ih _ w (by have := leftC_upd v hp h1 hyn; omega) (hcls p v hp hpr) hI'
  | none =>
   rw [hf] at hsub
   simp only [Bool.and_eq_true, Bool.not_eq_true', List.isEmpty_eq_false_iff] at hsub
   obtain ⟨hne, hin⟩ := hsub
   refine ⟨fun h0 => absurd h0 hne, fun i hi => ?_⟩
   have hi' := List.all_eq_true.1 hin i hi
   obtain ⟨p, hp, hpi⟩ := List.any_eq_true.1 hi'
   simp only [Bool.and_eq_true, beq_iff_eq, Bool.not_eq_true'] at hpi
   obtain ⟨rfl, hns⟩ := hpi
   have hyn := hnone p hp hi
   have hnf : ¬ fs.contains p.1 = true := by
    intro hc
    have h7 := List.find?_eq_none.1 hf p.1 (by simpa using hc)
    exact h7 (by simpa using hi)
   have h6 := hstep p hp y w hyn hsome hi hI
   rw [if_neg hnf] at h6
   refine wpOp_mono ?_ h6
   rintro a' w' ⟨v, rfl, hI'⟩
   refine ⟨fun _ => hS _ _ hI', ?_⟩
   rw [listC_upd y v ds l p hp h1, putC_upd y v ds a p hp h1 h2]
   exact ih _ w' (by have := leftC_upd v hp h1 hyn; omega) (hcls p v hp hi) hI'
structure OpW (P : Program) (o : Oper) (a : Act) (w : World) (K : Act → World → Prop) (Q : Exit → Act → World → Prop) : Prop where
 out : Oper.wp P o a w K Q
theorem wpOp_bare {i : Nat} (dst : Option Tmp) (op : Op) (ty : TypeId) {K : Act → World → Prop} {a : Act} {w : World} (hi : isBare ops i dst op ty)
 (h : ∀ K' : Act → World → Prop, RowKit.Hid (∀ a w, K a w → K' a w) → OpW P (bareOp dst op ty) a w K' Q) : wpOp P ops Q i K a w := by
 obtain ⟨o, ho, rfl, h1, h2, h3⟩ := hi
 refine wpOp_step ho (fun K' hK' => ?_)
 rw [if_pos (by simp [Region.wanted, h3])]
 have h4 := (h K' (Lh hK')).out
 unfold Oper.wp at h4 ⊢
 rw [exec_bare (dst := o.dst) h1 h2]
 exact h4
theorem putC_none : ∀ (ds : List (Nat × Tmp)) (a : Act), putC (fun _ => none) ds a = a
 | [], _ => rfl
 | p :: ds, a => by
  show putC (fun _ => none) ds (a.put (some p.2) (a.eval (.tmp p.2))) = a
  have e : a.put (some p.2) (a.eval (.tmp p.2)) = a := by
   unfold Act.put Act.eval
   cases a with
   | mk tmps defers =>
    simp only
    congr 1
    apply Array.ext
    · simp
    · intro i hi1 hi2
      rw [Array.getElem_setIfInBounds]
      split
      · next e => subst e; simp [Array.getD, hi2]
      · rfl
  rw [e, putC_none ds a]
theorem listC_none : ∀ (ds : List (Nat × Tmp)) (l : Array Bool), listC (fun _ => none) ds l = l
 | [], _ => rfl
 | p :: ds, l => by
  show listC (fun _ => none) ds (if ((none : Option Value)).isSome then _ else l) = l
  rw [if_neg (by simp), listC_none ds l]
theorem leftC_none (ds : List (Nat × Tmp)) : leftC (fun _ => none) ds = ds.length := by
 show (ds.filter fun _ => true).length = ds.length
 rw [List.filter_eq_self.2 (fun p _ => rfl)]
theorem wpAnyB_cloud0 (ds : List (Nat × Tmp)) (fs : List Nat) (I : (Nat → Option Value) → World → Prop) {f fuel : Nat} {l : Array Bool} {a : Act} {w : World} (hf : f = fuel + ds.length)
 (h1 : (ds.map Prod.fst).Nodup) (h2 : (ds.map Prod.snd).Nodup) (hs : Region.noSelect ops = true) (hr : readyF md ops ds fs b l = true) (hl : (ds.all fun q => l.getD q.1 true == false) = true) (hQ : ∀ c a (d : Tmp) v w, Q (.panic c) (a.put (some d) v) w → Q (.panic c) a w) (hS : ∀ y w, I y w → S w)
 (hI : I (fun _ => none) w)
 (hstep : ∀ p, p ∈ ds → ∀ y w, y p.1 = none → (∀ q, q ∈ ds → (y q.1).isSome = (listC y ds l).getD q.1 true) → p.1 ∈ Region.ready md ops (listC y ds l) → I y w →
   if fs.contains p.1 then ∃ o v, ops[p.1]? = some o ∧ o.dst = some p.2 ∧ Yields P ops o v (putC y ds a) ∧ I (updC y p.1 v) w
   else wpOp P ops Q p.1 (fun a' w' => ∃ v, a' = (putC y ds a).put (some p.2) v ∧ I (updC y p.1 v) w') (putC y ds a) w)
 (hend : ∀ y w, (∀ p, p ∈ ds → (y p.1).isSome = true) → I y w → wpAnyB P md ops Q b S fuel (setAll l ds) (putC y ds a) w) : wpAnyB P md ops Q b S f l a w := by
 have h := wpAnyB_cloudF ds fs I h1 h2 hs hr hQ hS hstep (fun q hq => by simpa using List.all_eq_true.1 hl q hq) hend ds.length (fun _ => none) w (leftC_none ds) (fun r _ hrs => by cases hrs) hI
 rw [listC_none, putC_none] at h
 rw [hf]
 exact h
theorem takeN {fs : List Nat} {i : Nat} {A B : Prop} (h : fs.contains i = false) (hB : B) : if fs.contains i then A else B := by rw [if_neg (by rw [h]; simp)]; exact hB
theorem ready_after {i j : Nat} {l : Array Bool} {o : Oper} (ho : ops[i]? = some o) (h : i ∈ Region.ready md ops l) (hj : (o.after.any fun e => Region.binds md e && e.on == j) = true) : l.getD j false = true := by
 obtain ⟨_, o', ho', hall⟩ := mem_ready.1 h
 rw [ho] at ho'
 cases ho'
 obtain ⟨e, he, hx⟩ := Array.any_eq_true'.1 hj
 simp only [Bool.and_eq_true, beq_iff_eq] at hx
 rw [← hx.2]
 exact hall e he hx.1
theorem depC {ds : List (Nat × Tmp)} {y : Nat → Option Value} {l : Array Bool} {i j : Nat} {d : Tmp} {o : Oper} (hy : ∀ q, q ∈ ds → (y q.1).isSome = (listC y ds l).getD q.1 true) (hq : (j, d) ∈ ds) (hrd : i ∈ Region.ready md ops (listC y ds l)) (ho : ops[i]? = some o)
 (hj : (o.after.any fun e => Region.binds md e && e.on == j) = true) : ∃ v, y j = some v := by
 have h1 := ready_after ho hrd hj
 have h2 := hy _ hq
 have h3 : (listC y ds l).getD j true = true := by
  rw [Array.getD_eq_getD_getElem?] at h1 ⊢
  cases he : (listC y ds l)[j]? with
  | none => rfl
  | some b => rw [he] at h1; exact h1
 rw [h3] at h2
 exact Option.isSome_iff_exists.1 h2
theorem eval_putC_not {y : Nat → Option Value} : ∀ (ds : List (Nat × Tmp)) (a : Act) (d : Tmp), d ∉ ds.map Prod.snd → (putC y ds a).eval (.tmp d) = a.eval (.tmp d)
 | [], _, _, _ => rfl
 | p :: ds, a, d, h => by
  show (putC y ds (a.put (some p.2) _)).eval (.tmp d) = _
  rw [eval_putC_not ds _ d (fun hm => h (by simp at hm ⊢; exact .inr hm)), eval_put_ne a _ (fun e => h (by simp [e]))]
theorem size_put (a : Act) (d : Option Tmp) (v : Value) : (a.put d v).tmps.size = a.tmps.size := by
 cases d <;> simp [Act.put]
theorem eval_put_same (a : Act) (d : Tmp) (v : Value) (h : d < a.tmps.size) : (a.put (some d) v).eval (.tmp d) = v := by
 simp [Act.put, Act.eval, h]
theorem eval_putC {y : Nat → Option Value} {j : Nat} {d : Tmp} {v : Value} : ∀ (ds : List (Nat × Tmp)) (a : Act), (j, d) ∈ ds → (ds.map Prod.snd).Nodup → y j = some v → d < a.tmps.size → (putC y ds a).eval (.tmp d) = v
 | [], _, h, _, _, _ => by cases h
 | p :: ds, a, h, hn, hv, hd => by
  rw [List.map_cons, List.nodup_cons] at hn
  rcases List.mem_cons.1 h with h | h
  · subst h
    show (putC y ds (a.put (some d) ((y j).getD (a.eval (.tmp d))))).eval (.tmp d) = v
    rw [eval_putC_not ds _ d hn.1, hv, eval_put_same _ _ _ hd]; rfl
  · exact eval_putC ds _ h hn.2 hv (by rw [size_put]; exact hd)
theorem wp_of_run {o : Oper} {a : Act} {w w' : World} {v : Value} {K : Act → World → Prop} (h : (execOp a.eval o).run P w = .ok (.value v) w') (hk : K (a.put o.dst v) w') : OpW P o a w K Q := by
 refine ⟨?_⟩
 unfold Oper.wp; rw [h]; exact hk
theorem wp_of_enter {o : Oper} {a : Act} {w w' : World} {f : FuncId} {args : Array Value} {R : Ending → World → Prop} {K : Act → World → Prop} (h : (execOp a.eval o).run P w = .ok (.enter f args) w') (hc : Calls P f args w' R)
 (hk : ∀ e w'', R e w'' → ∃ v, e = .returned v ∧ K (a.put o.dst v) w'') : OpW P o a w K Q := by
 refine ⟨?_⟩
 unfold Oper.wp
 rw [h, Oper.upon_enter]
 refine hc.mono fun e w'' hr => ?_
 obtain ⟨v, rfl, hK⟩ := hk e w'' hr
 exact hK
end
open Go Go.RowKit Num Sha
def vcell (av bv : Value) (one : Bool) : List Value := [av, bv, .bool one, .int .u64 0, .int .u64 0, .int .u64 0, .int .u64 0, .int .u64 0, .int .u64 0, .int .u64 0, .int .u64 0]
structure SlB (wd wk wr : World) (one : Bool) (mv av bv rv : Value) : Prop where
 kd : Below wd.heap.size wd wr
 km : ∀ j, wd.heap.size < j → j < wk.heap.size → wr.heap[j]? = wk.heap[j]?
 zk : wd.heap.size < wk.heap.size
 zr : wk.heap.size < wr.heap.size
 v : Cl wr wd.heap.size (vcell av bv one)
 r : Cl wr wk.heap.size [mv, rv]
theorem SlB.under {wd wk wr w' : World} {one : Bool} {mv av bv rv : Value} (h : SlB wd wk wr one mv av bv rv) (hb : Below (wk.heap.size + 1) wr w') : SlB wd wk w' one mv av bv rv :=
 ⟨h.kd.trans (hb.mono (by have := h.zk; omega)), fun j h1 h2 => (hb.block j (by omega)).trans (h.km j h1 h2), h.zk, Nat.lt_of_lt_of_le h.zr hb.size, h.v.keepN hb (by have := h.zk; omega), h.r.keepN hb (by omega)⟩
theorem SlB.keep {wd wk wr w' : World} {one : Bool} {mv av bv rv : Value} (h : SlB wd wk wr one mv av bv rv) (hb : Below wr.heap.size wr w') : SlB wd wk w' one mv av bv rv := h.under (hb.mono h.zr)
theorem SlB.drew {wd wk wr : World} {one : Bool} {mv av bv rv : Value} (h : SlB wd wk wr one mv av bv rv) : SlB wd wk wr.drew one mv av bv rv := h.keep (Below.refl _ _).drew
theorem SlB.alloc {wd wk wr : World} {one : Bool} {mv av bv rv : Value} (h : SlB wd wk wr one mv av bv rv) (o : Obj) : SlB wd wk (wr.alloc o) one mv av bv rv := h.keep ((Below.refl _ _).alloc (Nat.le_refl _) o)
structure SlR (wk wr : World) (av bv rv : Value) (i : Nat) (bs : List (Int × Int)) (ps : List Bt) (ns : List Int) : Prop where
 ha : wr.ownsRow (wk.heap.size + 1) 75 2 av i (flatS bs)
 hb : wr.ownsRow (wk.heap.size + 1) 31 8 bv i (flatB ps)
 hr : wr.ownsRow (wk.heap.size + 1) 22 1 rv i (ns.map (Value.int .u64))
theorem SlR.keep {wk wr w' : World} {av bv rv : Value} {i : Nat} {bs : List (Int × Int)} {ps : List Bt} {ns : List Int} (h : SlR wk wr av bv rv i bs ps ns) (hb : Below wr.heap.size wr w') : SlR wk w' av bv rv i bs ps ns :=
 ⟨owns_below2 h.ha hb, owns_below2 h.hb hb, owns_below2 h.hr hb⟩
theorem SlR.nil (wk wr : World) : SlR wk wr (.slice none 0 0) (.slice none 0 0) (.slice none 0 0) 0 [] [] [] := ⟨World.ownsRow_nil _ _ _ _, World.ownsRow_nil _ _ _ _, World.ownsRow_nil _ _ _ _⟩
def Apt (av bv rv : Value) (B : Nat) : Prop := (∀ k, av.ownBlock = some k → k < B) ∧ (∀ k, bv.ownBlock = some k → k < B) ∧ (∀ k, rv.ownBlock = some k → k < B)
def Chn (Z : Nat) (e : TypeId) (sz : Nat) (w : World) (v0 : Value) (i : Nat) (xs us : List Value) (y3 y4 : Option Value) : Prop :=
 (y4 = none → w.ownsRow Z e sz v0 i xs) ∧ (∀ v, y3 = some v → ∃ B, v = .slice (some ⟨B, 0, none⟩) 1 1 ∧ (y4 = none → w.ownsRow Z e sz v 1 us)) ∧ (∀ v, y4 = some v → w.ownsRow Z e sz v (i + 1) (xs ++ us))
theorem Chn.kept {Z : Nat} {e : TypeId} {sz : Nat} {w w' : World} {v0 : Value} {i : Nat} {xs us : List Value} {y3 y4 : Option Value} (h : Chn Z e sz w v0 i xs us y3 y4) {Z' sz' k' : Nat} {e' : TypeId} {v' : Value} {xs' : List Value}
 (h' : w.ownsRow Z' e' sz' v' k' xs') (hne : e' ≠ e) (hg : w.grownBy w' v'.ownBlock) : Chn Z e sz w' v0 i xs us y3 y4 :=
 ⟨fun h4 => World.ownsRow.kept (h.1 h4) hg (own_diffN h' (h.1 h4) hne), fun v hv => by
  obtain ⟨B, rfl, hB⟩ := h.2.1 v hv
  exact ⟨B, rfl, fun h4 => World.ownsRow.kept (hB h4) hg (own_diffN h' (hB h4) hne)⟩, fun v hv => World.ownsRow.kept (h.2.2 v hv) hg (own_diffN h' (h.2.2 v hv) hne)⟩
theorem Chn.keep {Z : Nat} {e : TypeId} {sz : Nat} {w w' : World} {v0 : Value} {i : Nat} {xs us : List Value} {y3 y4 : Option Value} (h : Chn Z e sz w v0 i xs us y3 y4) (hb : Below w.heap.size w w') : Chn Z e sz w' v0 i xs us y3 y4 :=
 ⟨fun h4 => owns_below2 (h.1 h4) hb, fun v hv => by
  obtain ⟨B, rfl, hB⟩ := h.2.1 v hv
  exact ⟨B, rfl, fun h4 => owns_below2 (hB h4) hb⟩, fun v hv => owns_below2 (h.2.2 v hv) hb⟩
theorem Chn.lit {Z : Nat} {e : TypeId} {sz : Nat} {w : World} {v0 : Value} {i : Nat} {xs us : List Value} {y3 y4 : Option Value} (h : Chn Z e sz w v0 i xs us y3 y4) (hz : Z ≤ w.heap.size) (hs : us.length = sz) :
 Chn Z e sz (w.alloc (.cells us.toArray e)) v0 i xs us (some (.slice (some ⟨w.heap.size, 0, none⟩) 1 1)) y4 :=
 ⟨fun h4 => owns_alloc2 (h.1 h4) _, fun v hv => by
  cases hv
  refine ⟨_, rfl, fun _ => ?_⟩
  have := World.ownsRow_lit (base := Z) (e := e) (size := sz) w us.toArray 1 hz (by unfold maxLen; omega) (by simp [hs])
  simpa using this, fun v hv => owns_alloc2 (h.2.2 v hv) _⟩
theorem Chn.app {Z : Nat} {e : TypeId} {sz : Nat} {w w' : World} {v0 v' : Value} {i : Nat} {xs us : List Value} {y3 : Option Value} (h : Chn Z e sz w v0 i xs us y3 none) (hown : w'.ownsRow Z e sz v' (i + 1) (xs ++ us)) :
 Chn Z e sz w' v0 i xs us y3 (some v') :=
 ⟨fun h4 => (by cases h4), fun v hv => by
  obtain ⟨B, rfl, -⟩ := h.2.1 v hv
  exact ⟨B, rfl, fun h4 => by cases h4⟩, fun v hv => by cases hv; exact hown⟩
theorem Chn.start {Z : Nat} {e : TypeId} {sz : Nat} {w : World} {v0 : Value} {i : Nat} {xs us : List Value} (h : w.ownsRow Z e sz v0 i xs) : Chn Z e sz w v0 i xs us none none :=
 ⟨fun _ => h, fun v hv => (by cases hv), fun v hv => (by cases hv)⟩
theorem ShI.blocks {q : IntKind} {w w' : World} {a : Option Addr} {n : Nat} {xs : List Int} (h : ShI q w a n xs) (hb : ∀ s o, a = some ⟨s, o, none⟩ → w'.heap[s]? = w.heap[s]? ∧ s < w'.heap.size) : ShI q w' a n xs := by
 rcases h with h | ⟨s, o, rfl, h1, h2, h3⟩
 · exact .inl h
 · exact .inr ⟨s, o, rfl, h1, (hb s o rfl).2, fun i hi => (World.cell?_of_block (w := w) (a := ⟨s, o + i, none⟩) (hb s o rfl).1).trans (h3 i hi)⟩
theorem Cl.grown {w w' : World} {B : Nat} {l : List Value} {v : Value} (h : Cl w B l) (hg : w.grownBy w' v.ownBlock) (ha : ∀ k, v.ownBlock = some k → k < B) : Cl w' B l := by
 have hb := hg.block B h.lt (fun e => by have := ha B e.symm; omega)
 exact ⟨fun i u hu => (World.cell?_of_block (w := w) (a := ⟨B, i, none⟩) hb).trans (h.c i u hu), fun i => (World.frozen?_of_block (w := w) (a := ⟨B, i, none⟩) hb).trans (h.f i), Nat.lt_of_lt_of_le h.lt hg.size⟩
/-! ### Single operations -/
section
variable (ρ : Operand → Value) (w : World)
theorem run_call (dst : Option Tmp) (ty : TypeId) (f : FuncId) {fn : Func} (hf : Tryz.prog.funcs[f]? = some fn) {xs : Array Operand} {ts : Array TypeId} {vs : Array Value} (hv : xs.map ρ = vs) (hρ : ρ (.func f) = .func (.func f) #[] #[]) (hb : fn.body.isSome = true) (hn : (fn.name == "runtime.NumGoroutine") = false) :
 (execOp ρ (bareOp dst (.call { callee := .value (.func f), args := xs, argTypes := ts }) ty)).run Tryz.prog w = .ok (.enter f vs) w := by
 have hn' : ¬ fn.name = "runtime.NumGoroutine" := by simpa using hn
 have hb' : ¬ fn.body = none := by intro h; rw [h] at hb; cases hb
 subst hv
 unfold bareOp
 simp [execOp, resolve, Deferred.ofValue, invoke, callFunc, hρ, hf, hb', hn', Sem.run_bind, program, Sem.run]
end
open Go Go.RowKit Num Sha
def sealE (P Q G y n : Int) (ms : List Int) (one : Bool) : Int := if chkB P Q G y n ≠ 0 then chkB P Q G y n else if markedS n ms = true ∧ (one = true → ms.length ≤ 1) then 0 else 2
def manyS (n : Int) (one : Bool) : Nat := 4 * n.toNat + if one then 3 else 0
def SealR (w : World) (P Q G y n : Int) (ms : List Int) (one : Bool) (seed : List Int) (e : Ending) (w' : World) : Prop := Below w.heap.size w w' ∧
 ((sealE P Q G y n ms one ≠ 0 ∧ e = .returned (.tuple #[.agg #[.slice none 0 0, .slice none 0 0, .bool false, υ 0, υ 0, υ 0, υ 0, υ 0, υ 0, υ 0, υ 0], .agg #[.slice none 0 0, .slice none 0 0], .int .i64 (sealE P Q G y n ms one)])) ∨ (sealE P Q G y n ms one = 0 ∧
   ((sampS seed Q (manyS n one) = none ∧ e = .returned (.tuple #[.agg #[.slice none 0 0, .slice none 0 0, .bool false, υ 0, υ 0, υ 0, υ 0, υ 0, υ 0, υ 0, υ 0], .agg #[.slice none 0 0, .slice none 0 0], .int .i64 6])) ∨
     ∃ d V R, sampS seed Q (manyS n one) = some d ∧ e = .returned (.tuple #[V.v, R.v, .int .i64 0]) ∧ SealV P Q G y n.toNat ms one d V R ∧ VtIn w' V ∧ RvIn w' R)))
open Go Go.RowKit Num Sha
def nsI (d : List Int) (i : Nat) : List Int := (List.range i).map fun t => d.getD (4 * t) 0
structure SlF (P Q G y : Int) (ms d : List Int) (i : Nat) (bs : List (Int × Int)) (ps : List Bt) : Prop where
 lb : bs.length = i
 lp : ps.length = i
 b : ∀ t, t < i → bs.getD t (0, 0) = encP P G y (msgS ms (t : Int)) (d.getD (4 * t) 0)
 p : ∀ t, t < i → BitZb P Q G y (msgS ms (t : Int)) (d.getD (4 * t) 0) (d.getD (4 * t + 1) 0) (d.getD (4 * t + 2) 0) (d.getD (4 * t + 3) 0) [(t : Int)] (ps.getD t Bt.zero)
theorem getD_snoc_lt {α : Type} {l : List α} {x z : α} {t : Nat} (h : t < l.length) : (l ++ [x]).getD t z = l.getD t z := by
 rw [List.getD_eq_getElem?_getD, List.getD_eq_getElem?_getD, List.getElem?_append_left h]
theorem getD_snoc_eq {α : Type} {l : List α} {x z : α} {t : Nat} (h : l.length = t) : (l ++ [x]).getD t z = x := by
 subst h; simp [List.getD_eq_getElem?_getD]
theorem SlF.snoc {P Q G y : Int} {ms d : List Int} {i : Nat} {bs : List (Int × Int)} {ps : List Bt} {ea eb : Int} {z : Bt} (h : SlF P Q G y ms d i bs ps) (he : encP P G y (msgS ms (i : Int)) (d.getD (4 * i) 0) = (ea, eb))
 (hz : BitZb P Q G y (msgS ms (i : Int)) (d.getD (4 * i) 0) (d.getD (4 * i + 1) 0) (d.getD (4 * i + 2) 0) (d.getD (4 * i + 3) 0) [(i : Int)] z) : SlF P Q G y ms d (i + 1) (bs ++ [(ea, eb)]) (ps ++ [z]) := by
 refine ⟨by rw [List.length_append, h.lb]; rfl, by rw [List.length_append, h.lp]; rfl, fun t ht => ?_, fun t ht => ?_⟩
 · by_cases e : t = i
   · subst e; rw [getD_snoc_eq h.lb, he]
   · rw [getD_snoc_lt (by rw [h.lb]; omega)]; exact h.b t (by omega)
 · by_cases e : t = i
   · subst e; rw [getD_snoc_eq h.lp]; exact hz
   · rw [getD_snoc_lt (by rw [h.lp]; omega)]; exact h.p t (by omega)
theorem SlF.nil (P Q G y : Int) (ms d : List Int) : SlF P Q G y ms d 0 [] [] := ⟨rfl, rfl, fun t ht => by omega, fun t ht => by omega⟩
structure SlD (w wd : World) (P Q G : Int) (sd nd : Nat) (d : List Int) : Prop where
 lt : w.heap.size + 1 + 1 + 1 < wd.heap.size
 g : Cl wd w.heap.size [υ P, υ Q, υ G]
 o : Cl wd (w.heap.size + 1 + 1) [.slice none 0 0, .slice none 0 0, .bool false, υ 0, υ 0, υ 0, υ 0, υ 0, υ 0, υ 0, υ 0]
 q : Cl wd (w.heap.size + 1 + 1 + 1) [.slice none 0 0, .slice none 0 0]
 s : sd < wd.heap.size
 l : nd = d.length
 c : ∀ k, k < d.length → wd.cell? ⟨sd, k, none⟩ = some (υ (d.getD k 0))
theorem OwnU8.lit {w : World} {base : Nat} {v : Value} {xs : List Int} (h : OwnU8 w base v xs) (h0 : 0 < xs.length) : ∃ g cap, v = .slice (some ⟨g, 0, none⟩) xs.length cap ∧ base ≤ g ∧ g < w.heap.size ∧ xs.length ≤ cap ∧ cap ≤ maxLen ∧ ∀ k, k < xs.length → w.cell? ⟨g, k, none⟩ = some (υ (xs.getD k 0)) := by
 have hlt := World.ownsRow.lt h
 rcases h.2 with ⟨rfl, hn⟩ | ⟨g, cap, cur, rfl, hb, hg, hc, hm, _⟩
 · omega
 · refine ⟨g, cap, rfl, hb, (hlt g rfl).2, hc, hm, fun k hk => ?_⟩
   have hcc := World.ownsRow.cells (g := g) h rfl k (υ (xs.getD k 0)) (by
    rw [List.getElem?_map, List.getElem?_eq_getElem hk, List.getD_eq_getElem?_getD, List.getElem?_eq_getElem hk]; rfl)
   rw [add_plain', Nat.zero_add] at hcc
   exact hcc
theorem SlD.of {w wd : World} {P Q G : Int} {sd nd : Nat} {d : List Int} (h : SlD w wd P Q G sd nd d) : True := trivial
def sealZ (P Q G y : Int) (j : Nat) (ms d : List Int) (one : Bool) (z : Bt) : Prop := (one = true ∧ BitZb P Q G y (ms.length : Int) (sumE Q d j) (d.getD (4 * j) 0) (d.getD (4 * j + 1) 0) (d.getD (4 * j + 2) 0) [255] z) ∨ (one = false ∧ z = Bt.zero)
open Go Go.RowKit Num Sha
theorem ShI.front {q : IntKind} {w : World} {a : Option Addr} {n m : Nat} {xs : List Int} (h : ShI q w a n xs) (hm : m ≤ n) : ShI q w a m (xs.take m) := by
 have hl := h.len
 rcases h with ⟨h1, h2⟩ | ⟨s, o, h0, h1, h2, h3⟩
 · exact .inl ⟨by omega, by rw [h2]; simp⟩
 · refine .inr ⟨s, o, h0, by rw [List.length_take]; omega, h2, fun i hi => ?_⟩
   rw [List.length_take] at hi
   rw [h3 i (by omega)]
   congr 2
   rw [List.getD_eq_getElem?_getD, List.getD_eq_getElem?_getD, List.getElem?_take_of_lt (by omega)]
def drawB (o : Option Int) : Value := match o with
 | some x => .tuple #[υ x, .bool true]
 | none => .tuple #[υ 0, .bool false]
open Go Go.RowKit Num Sha
theorem askS_chkB (P Q G y n : Int) : (if askS P Q G [] [y] = 0 then (if n < 1 ∨ 10 < n then 2 else 0) else askS P Q G [] [y]) = chkB P Q G y n := by
 unfold askS chkB
 by_cases hH : Has P Q G
 · by_cases hy : y < P
   · have h1 : okAll P [y] = true := by simp [okAll, hy]
     simp [hH, h1, okAll, hy, show ¬ P ≤ y by omega]
   · have h1 : okAll P [y] = false := by simp [okAll]; omega
     simp [hH, h1, show P ≤ y by omega]
 · simp [hH]
set_option maxHeartbeats 8000000 in
theorem rAsked36_any {P Q G y n : Int} (w : World) (hP : 0 ≤ P) (hQ : 0 ≤ Q) (hG : 0 ≤ G) (hy : 0 ≤ y) :
 Calls Tryz.prog 32 #[.agg #[υ P, υ Q, υ G], υ y, .int .i64 n] w fun e w' => e = .returned (.int .i64 (chkB P Q G y n)) ∧ Below w.heap.size w w' := by
 have HC := Lh (askS_chkB P Q G y n)
 have F_g := Lh (Cl.at w [υ P, υ Q, υ G] 24 w.heap.size rfl)
 have HBW := Lh (show Below w.heap.size w (w.alloc (.cells #[υ P, υ Q, υ G] 24)) from (Below.refl _ _).alloc (Nat.le_refl _) _)
 have c0 := F_g.o.c 0 _ rfl
 have c1 := F_g.o.c 1 _ rfl
 have c2 := F_g.o.c 2 _ rfl
 go_enter Tryz.func32, Tryz.ntmps32
 go_wp2_with fail
 clear c0 c1 c2
 obtain ⟨r, hr⟩ : ∃ r, askS P Q G [] [y] = r := ⟨_, rfl⟩
 refine (rAsked_any _ hP hQ hG (ShL.nil _) (by have h := ShL.new (w.alloc (.cells #[υ P, υ Q, υ G] 24)) [y] #[υ y] 22 1 1 rfl rfl; simpa using h) (by decide) (by decide) hr).mono ?_
 rintro e w1 ⟨rfl, hb1⟩
 replace HBW := Lh ((HBW.o.alloc HBW.o.size _).trans (hb1.mono (Nat.le_trans HBW.o.size (by simp))))
 rw [hr] at HC
 clear hb1 hr
 by_cases h0 : r = 0
 case neg =>
  have d0 : decide (r = 0) = false := decide_eq_false h0
  have HZ := Lh (show r = chkB P Q G y n by rw [← HC.o, if_neg h0])
  go_wp2_with fail
  go_ret
  exact ⟨by rw [← HZ.o]; rfl, HBW.o⟩
 case pos =>
  subst h0
  by_cases h1 : n < 1
  case pos =>
   have d1 : decide (n < 1) = true := decide_eq_true h1
   have HZ := Lh (show 2 = chkB P Q G y n by rw [← HC.o, if_pos rfl, if_pos (.inl h1)])
   go_wp2_with fail
   go_ret
   exact ⟨by rw [← HZ.o]; rfl, HBW.o⟩
  case neg =>
   have d1 : decide (n < 1) = false := decide_eq_false h1
   by_cases h2 : 10 < n
   case pos =>
    have d2 : decide (10 < n) = true := decide_eq_true h2
    have HZ := Lh (show 2 = chkB P Q G y n by rw [← HC.o, if_pos rfl, if_pos (.inr h2)])
    go_wp2_with fail
    go_ret
    exact ⟨by rw [← HZ.o]; rfl, HBW.o⟩
   case neg =>
    have d2 : decide (10 < n) = false := decide_eq_false h2
    have HZ := Lh (show 0 = chkB P Q G y n by rw [← HC.o, if_pos rfl, if_neg (by omega)])
    go_wp2_with fail
    go_ret
    exact ⟨by rw [← HZ.o]; rfl, HBW.o⟩
theorem msgS_not {l : List Int} {i : Int} {k : Nat} (hk : l.length ≤ k) (h : ∀ j, j < k → l.getD j 0 ≠ i) : msgS l i = 0 := by
 unfold msgS
 rw [if_neg]
 intro hm
 obtain ⟨j, hj, e⟩ := List.getElem_of_mem hm
 exact h j (by omega) (by rw [List.getD_eq_getElem?_getD, List.getElem?_eq_getElem hj]; exact e)
theorem msgS_hit {l : List Int} {i : Int} {k : Nat} (hk : k < l.length) (h : l.getD k 0 = i) : msgS l i = 1 := by
 unfold msgS
 rw [if_pos]
 rw [← h, List.getD_eq_getElem?_getD, List.getElem?_eq_getElem hk]
 exact List.getElem_mem hk
set_option maxHeartbeats 4000000 in
theorem rbit_any {i : Int} {a : Option Addr} {m c : Nat} {l : List Int} (w : World) (hS : ShI .i64 w a m l) (hm : m ≤ 100000) :
 Calls Tryz.prog 77 #[.slice a m c, .int .i64 i] w fun e w' => e = .returned (.int .i64 (msgS l i)) ∧ w' = w := by
 have HS := Lh hS
 have HL := Lh hS.len
 clear hS
 go_enter Tryz.func77, Tryz.ntmps77
 go_wp2_with fail
 go_loop [5] (fun c5 => ∃ k : Nat, k ≤ m ∧ c5 = .int .i64 k ∧ Hid (∀ j, j < k → l.getD j 0 ≠ i)) (fun c5 => m - (intOf c5).toNat)
 case atStart => exact ⟨0, Nat.zero_le _, rfl, fun j hj => by omega⟩
 case round =>
  obtain ⟨k, hk, rfl, HK⟩ := hrel
  by_cases hlt : k < m
  case neg =>
   have HZ := Lh (msgS_not (by rw [← HL.o]; omega) HK.o)
   have d5 : decide ((k : Int) < (m : Int)) = false := by simp; omega
   go_wp2_with fail
   go_ret
   exact ⟨by rw [HZ.o]; rfl, rfl⟩
  case pos =>
   obtain ⟨s, o, hsa, hsl, hck, -⟩ := HS.o.at k hlt
   subst hsa
   have hk0 : (0 : Int) ≤ (k : Int) := by omega
   have hk1 : (k : Int) < (m : Int) := by omega
   have d5 : decide ((k : Int) < (m : Int)) = true := by simp; omega
   by_cases hx : l.getD k 0 = i
   case pos =>
    have HZ := Lh (msgS_hit (by rw [← HL.o]; exact hlt) hx)
    have hd2 : (l.getD k 0 == i) = true := beq_iff_eq.2 hx
    generalize l.getD k 0 = x at hck hd2
    clear hx
    go_wp2_with fail
    go_ret
    exact ⟨by rw [HZ.o]; rfl, rfl⟩
   case neg =>
    have HN := Lh (show ∀ j, j < k + 1 → l.getD j 0 ≠ i from fun j hj => by
     by_cases e : j < k
     · exact HK.o j e
     · obtain rfl : j = k := by omega
       exact hx)
    have hd2 : (l.getD k 0 == i) = false := beq_eq_false_iff_ne.2 hx
    generalize l.getD k 0 = x at hck hd2
    clear hx
    go_wp2_with fail
    go_round
    case rel => exact ⟨k + 1, by omega, by go_num, HN.o⟩
    case measure => simp [intOf]; omega
def lastS (l : List Int) : Nat → Int
 | 0 => -1
 | k + 1 => l.getD k 0
theorem drop_cons {l : List Int} {k : Nat} (h : k < l.length) : l.drop k = l.getD k 0 :: l.drop (k + 1) := by
 rw [List.drop_eq_getElem_cons h, List.getD_eq_getElem?_getD, List.getElem?_eq_getElem h]; rfl
set_option maxHeartbeats 8000000 in
theorem rMarks_any {n : Int} {a : Option Addr} {m c : Nat} {l : List Int} (w : World) (hS : ShI .i64 w a m l) (hm : m ≤ 1000000) :
 Calls Tryz.prog 33 #[.int .i64 n, .slice a m c] w fun e w' => e = .returned (.bool (markedS n l)) ∧ Below w.heap.size w w' := by
 have HS := Lh hS
 have HL := Lh hS.len
 clear hS
 go_enter Tryz.func33, Tryz.ntmps33
 go_wp2_with fail
 go_loopw [5] (fun c5 wr => ∃ k : Nat, k ≤ m ∧ c5 = .int .i64 k ∧ Hid (markedS n l = markedFrom n (lastS l k) (l.drop k) ∧ -1 ≤ lastS l k) ∧ Hid (Below w.heap.size w wr)) (fun c5 _ => m - (intOf c5).toNat)
 case atStart => exact ⟨0, Nat.zero_le _, rfl, ⟨rfl, Int.le_refl _⟩, Below.refl _ _⟩
 case round =>
  obtain ⟨k, hk, rfl, HK, HBW⟩ := hrel
  by_cases hlt : k < m
  case neg =>
   have HZ := Lh (show markedS n l = true by rw [HK.o.1, List.drop_eq_nil_of_le (by rw [← HL.o]; omega)]; rfl)
   have d5 : decide ((k : Int) < (m : Int)) = false := by simp; omega
   go_wp2_with fail
   go_ret
   exact ⟨by rw [HZ.o]; rfl, HBW.o⟩
  case pos =>
   obtain ⟨s, o, hsa, hsl, hck, -⟩ := (HS.o.keep HBW.o).at k hlt
   have HM := Lh (show markedS n l = if l.getD k 0 ≤ lastS l k ∨ n ≤ l.getD k 0 then false else markedFrom n (l.getD k 0) (l.drop (k + 1)) by rw [HK.o.1, drop_cons (by rw [← HL.o]; exact hlt)]; rfl)
   have HLA := Lh (show lastS l (k + 1) = l.getD k 0 from rfl)
   have HKL := Lh HK.o.2
   clear HK
   subst hsa
   have hk0 : (0 : Int) ≤ (k : Int) := by omega
   have hk1 : (k : Int) < (m : Int) := by omega
   have d5 : decide ((k : Int) < (m : Int)) = true := by simp; omega
   have w3 : IntKind.i64.wrap ((k : Int) + 1) = (k : Int) + 1 := IntWalk.i64_in _ (by omega)
   generalize l.getD k 0 = x at hck HM HLA
   by_cases h1 : x < 0
   case pos =>
    have d1 : decide (x < 0) = true := decide_eq_true h1
    have HZ := Lh (show markedS n l = false by rw [HM.o, if_pos (.inl (by have := HKL.o; omega))])
    go_wp2_with fail
    go_quiet (fail)
    go_wp2_with fail
    go_ret
    exact ⟨by rw [HZ.o]; rfl, below_drewN HBW.o _⟩
   case neg =>
    have d1 : decide (x < 0) = false := decide_eq_false h1
    by_cases h2 : n ≤ x
    case pos =>
     have d2 : decide (n ≤ x) = true := decide_eq_true h2
     have HZ := Lh (show markedS n l = false by rw [HM.o, if_pos (.inr h2)])
     go_wp2_with fail
     go_quiet (fail)
     go_wp2_with fail
     go_ret
     exact ⟨by rw [HZ.o]; rfl, below_drewN HBW.o _⟩
    case neg =>
     have d2 : decide (n ≤ x) = false := decide_eq_false h2
     by_cases hz : k = 0
     case pos =>
      have d3 : decide (0 < k) = false := decide_eq_false (by omega)
      have HZ := Lh (show markedS n l = markedFrom n (lastS l (k + 1)) (l.drop (k + 1)) by rw [HM.o, HLA.o, if_neg (show ¬ (x ≤ lastS l k ∨ n ≤ x) by rw [hz]; simp only [lastS]; omega)])
      have HX := Lh (show -1 ≤ lastS l (k + 1) by rw [HLA.o]; omega)
      clear hz
      go_wp2_with fail
      go_quiet (fail)
      go_wp2_with fail
      go_roundw
      case rel => exact ⟨k + 1, by omega, by go_num, ⟨HZ.o, HX.o⟩, below_drewN HBW.o _⟩
      case measure => simp [intOf] <;> omega
     case neg =>
      obtain ⟨j, rfl⟩ : ∃ j, k = j + 1 := ⟨k - 1, by omega⟩
      obtain ⟨s', o', hsa', hsl', hcj, -⟩ := (HS.o.keep HBW.o).at j (by omega)
      cases hsa'
      have HLJ := Lh (show lastS l (j + 1) = l.getD j 0 from rfl)
      generalize l.getD j 0 = p at hcj HLJ
      have d3 : decide (0 < j + 1) = true := decide_eq_true (by omega)
      have w4 : IntKind.i64.wrap (((j + 1 : Nat) : Int) - 1) = (j : Int) := by rw [IntWalk.i64_in _ (by omega)]; omega
      have hj0 : (0 : Int) ≤ (j : Int) := by omega
      have hj1 : (j : Int) < (m : Int) := by omega
      by_cases h3 : x ≤ p
      case pos =>
       have d4 : decide (x ≤ p) = true := decide_eq_true h3
       have HZ := Lh (show markedS n l = false by rw [HM.o, if_pos (.inl (by rw [HLJ.o]; exact h3))])
       go_wp2_with fail
       go_quiet (fail)
       go_wp2_with fail
       go_ret
       exact ⟨by rw [HZ.o]; rfl, below_drewN HBW.o _⟩
      case neg =>
       have d4 : decide (x ≤ p) = false := decide_eq_false h3
       have HZ := Lh (show markedS n l = markedFrom n (lastS l (j + 1 + 1)) (l.drop (j + 1 + 1)) by rw [HM.o, HLA.o, if_neg (show ¬ (x ≤ lastS l (j + 1) ∨ n ≤ x) by rw [HLJ.o]; omega)])
       have HX := Lh (show -1 ≤ lastS l (j + 1 + 1) by rw [HLA.o]; omega)
       go_wp2_with fail
       go_quiet (fail)
       go_wp2_with fail
       go_roundw
       case rel => exact ⟨j + 1 + 1, by omega, by go_num, ⟨HZ.o, HX.o⟩, below_drewN HBW.o _⟩
       case measure => simp [intOf] <;> omega
open Go Go.RowKit Num Sha
theorem Arr.keepN {k : IntKind} {w w' : World} {b n : Nat} {xs : List Int} (h : Arr k w b xs) (hb : Below n w w') (hn : b < n) : Arr k w' b xs :=
 ⟨fun i hi => (hb.cell (p := ⟨b, i, none⟩) hn).trans (h.c i hi), fun i => (hb.frozen (p := ⟨b, i, none⟩) hn).trans (h.f i), Nat.lt_of_lt_of_le h.lt hb.size⟩
def RetNo (w : World) (o : Option (List Int)) (e : Ending) (w' : World) : Prop := Below w.heap.size w w' ∧ match o with
 | some xs => ∃ v, e = .returned (.tuple #[v, .bool true]) ∧ OwnU8 w' w.heap.size v xs
 | none => e = .returned (.tuple #[.slice none 0 0, .bool false])
end Go.Proofs.YtlbldpkgnonbpaaGreatDoor
