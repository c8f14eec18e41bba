/- The reader's bit. -/
import Derived.Test.YtkjkdfhjfnoalaaGreatDoorTqH
import Derived.Test.YtkjkdfhjfnoalaaGreatDoorTqI
import Derived.Deep.Cut
import Derived.Deep.MidRow
import Derived.Test.YtkjkdfhjfnoalaaGreatDoorTqC
set_option linter.unusedSimpArgs false
set_option linter.unusedVariables false
set_option maxRecDepth 100000
namespace Go.Proofs.YtkjkdfhjfnoalaaGreatDoor
open Go Go.RowKit Num Sha
abbrev Gro (r : Nat) (w w' : World) : Prop := w.grownBy w' (some r)
theorem Gro.refl (r : Nat) (w : World) : Gro r w w := ⟨rfl, rfl, rfl, Nat.le_refl _, fun _ _ _ => rfl⟩
theorem Gro.trans {r : Nat} {a b c : World} (h : Gro r a b) (k : Gro r b c) : Gro r a c :=
  ⟨k.os.trans h.os, k.tape.trans h.tape, k.output.trans h.output, Nat.le_trans h.size k.size, fun i hi hn => (k.block i (Nat.lt_of_lt_of_le hi h.size) hn).trans (h.block i hi hn)⟩
theorem Gro.below {r : Nat} {a b c : World} (h : Gro r a b) (k : Below b.heap.size b c) : Gro r a c :=
  ⟨k.os.trans h.os, k.tape.trans h.tape, k.output.trans h.output, Nat.le_trans h.size k.size, fun i hi hn => (k.block i (Nat.lt_of_lt_of_le hi h.size)).trans (h.block i hi hn)⟩
theorem Gro.drew {r : Nat} {a b : World} (h : Gro r a b) : Gro r a b.drew := ⟨h.os, h.tape, h.output, h.size, h.block⟩
theorem Gro.alloc {r : Nat} {a b : World} (h : Gro r a b) (o : Obj) : Gro r a (b.alloc o) := h.below ((Below.refl _ _).alloc (Nat.le_refl _) o)
theorem Gro.set {r : Nat} {a b : World} (h : Gro r a b) (p : Addr) (hp : p.block = r ∨ a.heap.size ≤ p.block) (v : Value) : Gro r a (b.setCell p v) :=
  ⟨h.os, h.tape, h.output, by simpa using h.size, fun i hi hn => by
   rw [Below.heap_setCell b p v i (by rcases hp with hp | hp; · intro e; apply hn; rw [e, hp]
                                      · omega)]
   exact h.block i hi hn⟩
theorem Gro.blw {r n : Nat} {a b : World} (h : Gro r a b) (hn : n ≤ r) (hz : n ≤ a.heap.size) : Below n a b :=
  ⟨h.os, h.tape, h.output, h.size, fun k hk => h.block k (by omega) (by intro e; injection e with e; omega)⟩
def Rd (w0 W : World) (Br : Nat) (xs : List Int) : Prop := ∃ a c, RBox W Br (.slice a xs.length c) ∧ ShI .u8 w0 a xs.length xs ∧ xs.length ≤ c
theorem Rd.keepN {w0 W W' : World} {Br n : Nat} {xs : List Int} (h : Rd w0 W Br xs) (hb : Below n W W') (hn : Br < n) : Rd w0 W' Br xs := by
 obtain ⟨a, c, h1, h2, h3⟩ := h
 exact ⟨a, c, h1.keepN hb hn, h2, h3⟩
theorem Rd.lt {w0 W : World} {Br : Nat} {xs : List Int} (h : Rd w0 W Br xs) : Br < W.heap.size := by
 obtain ⟨a, c, h1, h2, h3⟩ := h
 exact h1.lt
theorem Rd.keep {w0 W W' : World} {Br : Nat} {xs : List Int} (h : Rd w0 W Br xs) (hb : Below W.heap.size W W') : Rd w0 W' Br xs := h.keepN hb h.lt
theorem Rd.drew {w0 W : World} {Br : Nat} {xs : List Int} (h : Rd w0 W Br xs) : Rd w0 W.drew Br xs := h.keep (Below.refl _ _).drew
theorem Rd.alloc {w0 W : World} {Br : Nat} {xs : List Int} (h : Rd w0 W Br xs) (o : Obj) : Rd w0 (W.alloc o) Br xs := h.keep ((Below.refl _ _).alloc (Nat.le_refl _) o)
theorem Rd.set {w0 W : World} {Br : Nat} {xs : List Int} (h : Rd w0 W Br xs) (p : Addr) (u : Value) (hp : p.block ≠ Br) : Rd w0 (W.setCell p u) Br xs := by
 obtain ⟨a, c, h1, h2, h3⟩ := h
 exact ⟨a, c, h1.other p u hp, h2, h3⟩
theorem Bytes.drop {xs : List Int} (h : Bytes xs) (k : Nat) : Bytes (xs.drop k) := fun x hx => h x (List.mem_of_mem_drop hx)
def num8 (xs : List Int) (j : Nat) : Int := beN ((xs.drop (8 * j)).take 8)
def bitN (xs : List Int) : Bt := ⟨num8 xs 0, num8 xs 2, num8 xs 1, num8 xs 3, num8 xs 4, num8 xs 5, num8 xs 6, num8 xs 7⟩
def Bt.l (z : Bt) : List Int := [z.r0, z.r1, z.s0, z.s1, z.c0, z.c1, z.z0, z.z1]
structure TwoB (W : World) (B : Nat) (v1 v2 : Value) : Prop where
  c0 : W.cell? ⟨B, 0, none⟩ = some v1
  c1 : W.cell? ⟨B, 1, none⟩ = some v2
  lt : B < W.heap.size
theorem TwoB.at (W : World) (v1 v2 : Value) (T : TypeId) (b : Nat) (hb : b = W.heap.size) : TwoB (W.alloc (.cells #[v1, v2] T)) b v1 v2 := by
 subst hb
 refine ⟨?_, ?_, by simp⟩
 · rw [World.cell?_alloc_new]; rfl
 · rw [World.cell?_alloc_new]; rfl
theorem TwoB.keep {W W' : World} {B : Nat} {v1 v2 : Value} (h : TwoB W B v1 v2) (hb : Below W.heap.size W W') : TwoB W' B v1 v2 :=
  ⟨(hb.cell (p := ⟨B, 0, none⟩) h.lt).trans h.c0, (hb.cell (p := ⟨B, 1, none⟩) h.lt).trans h.c1, Nat.lt_of_lt_of_le h.lt hb.size⟩
theorem TwoB.drew {W : World} {B : Nat} {v1 v2 : Value} (h : TwoB W B v1 v2) : TwoB W.drew B v1 v2 := h.keep (Below.refl _ _).drew
theorem TwoB.set {W : World} {B : Nat} {v1 v2 : Value} (h : TwoB W B v1 v2) (p : Addr) (u : Value) (hp : p.block ≠ B) : TwoB (W.setCell p u) B v1 v2 :=
  ⟨by rw [World.cell?_setCell_other _ _ _ _ (show p ≠ ⟨B, 0, none⟩ from fun e => hp (by rw [e]))]; exact h.c0, by rw [World.cell?_setCell_other _ _ _ _ (show p ≠ ⟨B, 1, none⟩ from fun e => hp (by rw [e]))]; exact h.c1, by simpa using h.lt⟩
open Go Go.RowKit Num Sha
structure Cl (w : World) (B : Nat) (l : List Value) : Prop where
  c : ∀ i u, l[i]? = some u → w.cell? ⟨B, i, none⟩ = some u
  f : ∀ i, w.frozen? ⟨B, i, none⟩ = false
  lt : B < w.heap.size
theorem Cl.at (w : World) (l : List Value) (t : TypeId) (b : Nat) (hb : b = w.heap.size) : Cl (w.alloc (.cells l.toArray t)) b l := by
 subst hb
 refine ⟨fun i u hu => ?_, fun i => by simp, by simp⟩
 rw [World.cell?_alloc_new]; simpa using hu
theorem Cl.keepN {w w' : World} {B n : Nat} {l : List Value} (h : Cl w B l) (hb : Below n w w') (hn : B < n) : Cl w' B l :=
  ⟨fun i u hu => (hb.cell (p := ⟨B, i, none⟩) hn).trans (h.c i u hu), fun i => (hb.frozen (p := ⟨B, i, none⟩) hn).trans (h.f i), Nat.lt_of_lt_of_le h.lt hb.size⟩
theorem Cl.keep {w w' : World} {B : Nat} {l : List Value} (h : Cl w B l) (hb : Below w.heap.size w w') : Cl w' B l := h.keepN hb h.lt
theorem Cl.drew {w : World} {B : Nat} {l : List Value} (h : Cl w B l) : Cl w.drew B l := h.keep (Below.refl _ _).drew
theorem Cl.alloc {w : World} {B : Nat} {l : List Value} (h : Cl w B l) (o : Obj) : Cl (w.alloc o) B l := h.keep ((Below.refl _ _).alloc (Nat.le_refl _) o)
theorem Cl.far {w : World} {B : Nat} {l : List Value} (h : Cl w B l) (p : Addr) (u : Value) (hp : p.block ≠ B) : Cl (w.setCell p u) B l :=
  ⟨fun i v hv => by rw [World.cell?_setCell_other _ _ _ _ (show p ≠ ⟨B, i, none⟩ from fun e => hp (by rw [e]))]; exact h.c i v hv, fun i => by rw [World.frozen?_setCell]; exact h.f i, by simpa using h.lt⟩
theorem Cl.set {w : World} {B : Nat} {l m : List Value} (h : Cl w B l) (i : Nat) (u : Value) (hi : i < l.length) (hm : l.set i u = m) : Cl (w.setCell ⟨B, i, none⟩ u) B m := by
 subst hm
 refine ⟨fun j v hv => ?_, fun j => by rw [World.frozen?_setCell]; exact h.f j, by simpa using h.lt⟩
 by_cases e : j = i
 · subst e
   rw [List.getElem?_set_self hi] at hv
   cases hv
   refine World.cell?_setCell_same' _ _ _ ?_
   rw [h.c j l[j] (List.getElem?_eq_getElem hi)]; try rfl
 · rw [List.getElem?_set_ne (Ne.symm e)] at hv
   rw [World.cell?_setCell_other _ _ _ _ (show (⟨B, i, none⟩ : Addr) ≠ ⟨B, j, none⟩ from fun h0 => e (by injection h0 with _ h1; exact h1.symm))]
   exact h.c j v hv
theorem own_gro {W W' : World} {r n₀ : Nat} {e : TypeId} {sz n : Nat} {v : Value} {xs : List Value} (h : W.ownsRow n₀ e sz v n xs) (g : Gro r W W') (hn : r < n₀) : W'.ownsRow n₀ e sz v n xs := by
 refine World.ownsRow.kept h g ?_
 cases hv : v.ownBlock with
 | none => exact .inl rfl
 | some k => exact .inr (by have := (h.lt k hv).1; intro e; injection e with e; omega)
theorem own_far {W : World} {n₀ : Nat} {e : TypeId} {sz n : Nat} {v : Value} {xs : List Value} (h : W.ownsRow n₀ e sz v n xs) (p : Addr) (u : Value) (hn : p.block < n₀) : (W.setCell p u).ownsRow n₀ e sz v n xs :=
  own_gro h ((Gro.refl p.block W).set p (.inl rfl) u) hn
def boxesN (ys : List Int) (k : Nat) : List (Int × Int) := (List.range k).map fun i => (num8 ys (2 * i), num8 ys (2 * i + 1))
def bitsN (ys : List Int) (n k : Nat) : List Bt := (List.range k).map fun i => bitN (ys.drop (16 * n + 64 * i))
def readF (xs : List Int) : Int × List (Int × Int) × List Bt × Bool × Bt :=
  let n := (xs.getD 0 0).toNat
  let m := (xs.getD 1 0).toNat
  if xs.length < 3 then (10, [], [], false, Bt.zero)
  else if 10 < n ∨ 10 < m ∨ 1 < xs.getD 2 0 then (11, [], [], false, Bt.zero)
  else if xs.length < 3 + 16 * n + 64 * (m + 1) then (10, [], [], false, Bt.zero)
  else if 3 + 16 * n + 64 * (m + 1) < xs.length then (11, [], [], false, Bt.zero)
  else (0, boxesN (xs.drop 3) n, bitsN (xs.drop 3) n m, decide (xs.getD 2 0 = 1), bitN ((xs.drop 3).drop (16 * n + 64 * m)))
def RetRd (w : World) (xs : List Int) (e : Ending) (w' : World) : Prop :=
  ∃ V : Vt, e = .returned (.tuple #[V.v, .int .i64 (readF xs).1]) ∧ VtIn w' V ∧ V.bs = (readF xs).2.1 ∧ V.ps = (readF xs).2.2.1 ∧ V.one = (readF xs).2.2.2.1 ∧ V.z = (readF xs).2.2.2.2 ∧ Below w.heap.size w w'
def zeroV : Vt := ⟨none, 0, 0, [], none, 0, 0, [], false, Bt.zero⟩
open Go Go.RowKit Num Sha
theorem Gro.puts {r : Nat} {a : World} (k : Nat) (vs : List Value) (p : Nat) (hp : p = r ∨ a.heap.size ≤ p) : ∀ (b : World) (o : Nat), Gro r a b → Gro r a (b.setCells p o vs) := by
 induction vs with
 | nil => intro b o h; exact h
 | cons v vs ih => intro b o h; exact ih _ _ (h.set ⟨p, o, none⟩ hp v)
theorem Cl.range {w : World} {B : Nat} {l : List Value} (h : Cl w B l) : w.rangeAt B 0 l := fun j v hv => by rw [Nat.zero_add]; exact h.c j v hv
theorem Cl.there {w : World} {B : Nat} {l : List Value} (h : Cl w B l) (k n : Nat) (hk : k + n ≤ l.length) : w.there B k n := fun j hj =>
 ⟨by rw [h.c (k + j) _ (List.getElem?_eq_getElem (by omega))]; rfl, h.f _⟩
theorem Cl.puts {w : World} {B : Nat} {l m : List Value} (h : Cl w B l) (k : Nat) (vs : List Value) (hk : k + vs.length ≤ l.length) (hm : l.take k ++ vs ++ l.drop (k + vs.length) = m) : Cl (w.setCells B k vs) B m := by
 subst hm
 have ht := h.there k vs.length hk
 refine ⟨fun i u hu => ?_, fun i => by rw [World.frozen?_setCells]; exact h.f i, ?_⟩
 · by_cases h1 : i < k
   · rw [List.append_assoc, List.getElem?_append_left (by rw [List.length_take]; omega), List.getElem?_take_of_lt h1] at hu
     rw [World.cell?_setCells_out B vs k w ⟨B, i, none⟩ (fun _ _ => .inl h1)]
     exact h.c i u hu
   · by_cases h2 : i < k + vs.length
     · rw [List.getElem?_append_left (by rw [List.length_append, List.length_take]; omega), List.getElem?_append_right (by rw [List.length_take]; omega), List.length_take, show min k l.length = k by omega] at hu
       obtain ⟨j, rfl⟩ : ∃ j, i = k + j := ⟨i - k, by omega⟩
       rw [show k + j - k = j by omega] at hu
       exact World.rangeAt_setCells_same w B k vs ht j u hu
     · rw [List.getElem?_append_right (by rw [List.length_append, List.length_take]; omega), List.length_append, List.length_take, show min k l.length = k by omega, List.getElem?_drop, show k + vs.length + (i - (k + vs.length)) = i by omega] at hu
       rw [World.cell?_setCells_out B vs k w ⟨B, i, none⟩ (fun _ _ => .inr (by show k + vs.length ≤ i; omega))]
       exact h.c i u hu
 · exact Nat.lt_of_lt_of_le h.lt ((Gro.puts (r := B) k vs B (.inl rfl) w k (Gro.refl _ _)).size)
theorem wpL_storeCl {P : Program} {w : World} {o : Oper} {ops : Array Oper} {rest : List Oper} {a : Act} {Q : Exit → Act → World → Prop} (hgd : o.guard = none) (t : TypeId) (p v : Operand) (b k : Nat) (l vs m : List Value) (ho : o.op = .store t p v) (hd : o.dst = none)
    (hp : a.eval p = .pointer (some ⟨b, k, none⟩)) (hv : a.eval v = .agg vs.toArray) (hi : (P.info? t).map (·.size) = some vs.length) (h1 : ∀ u, u ∈ vs → u.oneCell' = true) (hC : Cl w b l) (hk : k + vs.length ≤ l.length) (hm : l.take k ++ vs ++ l.drop (k + vs.length) = m)
    (h : ∀ w', Cl w' b m → Gro b w w' → w'.heap.size = w.heap.size → wpList P ops Q rest a w') : wpList P ops Q (o :: rest) a w := by
  refine wpList_store_mid hgd t p v ho b k vs.toArray hp hv (by simpa using hC.there k vs.length hk) (by simpa using hi) (all_oneCell_toArray h1) ?_
  have := h _ (hC.puts k vs hk hm) (Gro.puts k vs b (.inl rfl) w k (Gro.refl _ _)) (size_setCells b vs k w)
  rw [hd]
  exact this
theorem Rd.start {w0 W : World} {B n c : Nat} {a : Option Addr} {xs : List Int} (hx : RBox W B (.slice a n c)) (hS : ShI .u8 w0 a n xs) (h : n ≤ c) : Rd w0 W B xs := by
 obtain rfl := hS.len
 exact ⟨a, c, hx, hS, h⟩
open Go
section
variable {P : Program} {ops : Array Oper} {Q : Exit → Act → World → Prop} {md : Region.Mode} {b : Nat} {S : World → Prop}
def putC (y : Nat → Option Value) : List (Nat × Tmp) → Act → Act
  | [], a => a
  | p :: ds, a => putC y ds (a.put (some p.2) ((y p.1).getD (a.eval (.tmp p.2))))
def listC (y : Nat → Option Value) : List (Nat × Tmp) → Array Bool → Array Bool
  | [], l => l
  | p :: ds, l => listC y ds (if (y p.1).isSome then l.setIfInBounds p.1 true else l)
def updC (y : Nat → Option Value) (j : Nat) (v : Value) : Nat → Option Value := fun k => if k = j then some v else y k
@[simp] theorem updC_same (y : Nat → Option Value) (j : Nat) (v : Value) : updC y j v j = some v := by simp [updC]
theorem uS {y : Nat → Option Value} {k : Nat} {v r : Value} (hv : updC y k v k = some r) : v = r := Option.some.inj ((updC_same y k v).symm.trans hv)
theorem updC_ne (y : Nat → Option Value) {j k : Nat} (v : Value) (h : k ≠ j) : updC y j v k = y k := by simp [updC, h]
theorem uN {y : Nat → Option Value} {k q : Nat} {v r : Value} (hv : updC y k v q = some r) (h : q ≠ k := by decide) : y q = some r := (updC_ne y v h).symm.trans hv
theorem put_comm (a : Act) {d e : Tmp} (u v : Value) (h : d ≠ e) : (a.put (some d) u).put (some e) v = (a.put (some e) v).put (some d) u := by
 simp only [Act.put]
 rw [Array.setIfInBounds_comm _ _ h]
theorem put_twice (a : Act) (d : Tmp) (u v : Value) : (a.put (some d) u).put (some d) v = a.put (some d) v := by
 simp [Act.put]
theorem eval_put_ne (a : Act) {d e : Tmp} (u : Value) (h : d ≠ e) : (a.put (some d) u).eval (.tmp e) = a.eval (.tmp e) := by
 simp [Act.put, Act.eval, Array.getElem?_setIfInBounds, h]
theorem putC_put (y : Nat → Option Value) : ∀ (ds : List (Nat × Tmp)) (a : Act) (d : Tmp) (v : Value), d ∉ ds.map Prod.snd → putC y ds (a.put (some d) v) = (putC y ds a).put (some d) v
  | [], _, _, _, _ => rfl
  | p :: ds, a, d, v, h => by
   have hne : d ≠ p.2 := fun e => h (by simp [e])
   show putC y ds ((a.put (some d) v).put (some p.2) ((y p.1).getD ((a.put (some d) v).eval (.tmp p.2)))) = _
   rw [eval_put_ne a v hne, put_comm a v _ hne, putC_put y ds _ d v (fun hm => h (by simp at hm ⊢; exact .inr hm))]
   rfl
theorem putC_same {y y' : Nat → Option Value} : ∀ (ds : List (Nat × Tmp)) (a : Act), (∀ p, p ∈ ds → y p.1 = y' p.1) → putC y ds a = putC y' ds a
  | [], _, _ => rfl
  | p :: ds, a, h => by
   show putC y ds _ = putC y' ds _
   rw [h p (by simp)]
   exact putC_same ds _ (fun q hq => h q (by simp [hq]))
theorem putC_upd (y : Nat → Option Value) (v : Value) : ∀ (ds : List (Nat × Tmp)) (a : Act) (p : Nat × Tmp), p ∈ ds → (ds.map Prod.fst).Nodup → (ds.map Prod.snd).Nodup → (putC y ds a).put (some p.2) v = putC (updC y p.1 v) ds a
  | [], _, _, h, _, _ => by cases h
  | q :: ds, a, p, h, h1, h2 => by
   rw [List.map_cons, List.nodup_cons] at h1 h2
   rcases List.mem_cons.1 h with rfl | h
   · show (putC y ds (a.put (some p.2) ((y p.1).getD (a.eval (.tmp p.2))))).put (some p.2) v = putC (updC y p.1 v) ds (a.put (some p.2) ((updC y p.1 v p.1).getD (a.eval (.tmp p.2))))
     rw [updC_same, ← putC_put y ds _ p.2 v h2.1, put_twice]
     exact putC_same ds _ fun q hq => (updC_ne y v (fun e => h1.1 (by rw [← e]; exact List.mem_map_of_mem hq))).symm
   · have hne : q.1 ≠ p.1 := fun e => h1.1 (by rw [e]; exact List.mem_map_of_mem h)
     show (putC y ds (a.put (some q.2) ((y q.1).getD (a.eval (.tmp q.2))))).put (some p.2) v = putC (updC y p.1 v) ds (a.put (some q.2) ((updC y p.1 v q.1).getD (a.eval (.tmp q.2))))
     rw [updC_ne y v hne]
     exact putC_upd y v ds _ p h h1.2 h2.2
theorem listC_set (y : Nat → Option Value) : ∀ (ds : List (Nat × Tmp)) (l : Array Bool) (j : Nat), listC y ds (l.setIfInBounds j true) = (listC y ds l).setIfInBounds j true
  | [], _, _ => rfl
  | p :: ds, l, j => by
   show listC y ds (if (y p.1).isSome then (l.setIfInBounds j true).setIfInBounds p.1 true else l.setIfInBounds j true) = (listC y ds (if (y p.1).isSome then l.setIfInBounds p.1 true else l)).setIfInBounds j true
   rw [← listC_set y ds]
   by_cases hj : j = p.1
   · subst hj; split <;> simp
   · split
     · rw [Array.setIfInBounds_comm _ _ hj]
     · rfl
theorem listC_same {y y' : Nat → Option Value} : ∀ (ds : List (Nat × Tmp)) (l : Array Bool), (∀ p, p ∈ ds → y p.1 = y' p.1) → listC y ds l = listC y' ds l
  | [], _, _ => rfl
  | p :: ds, a, h => by
   show listC y ds _ = listC y' ds _
   rw [h p (by simp)]
   exact listC_same ds _ (fun q hq => h q (by simp [hq]))
theorem listC_upd (y : Nat → Option Value) (v : Value) : ∀ (ds : List (Nat × Tmp)) (l : Array Bool) (p : Nat × Tmp), p ∈ ds → (ds.map Prod.fst).Nodup → (listC y ds l).setIfInBounds p.1 true = listC (updC y p.1 v) ds l
  | [], _, _, h, _ => by cases h
  | q :: ds, l, p, h, h1 => by
   rw [List.map_cons, List.nodup_cons] at h1
   rcases List.mem_cons.1 h with rfl | h
   · show (listC y ds (if (y p.1).isSome then l.setIfInBounds p.1 true else l)).setIfInBounds p.1 true = listC (updC y p.1 v) ds (if (updC y p.1 v p.1).isSome then l.setIfInBounds p.1 true else l)
     rw [updC_same, ← listC_set y ds]
     have e : (if (y p.1).isSome then l.setIfInBounds p.1 true else l).setIfInBounds p.1 true = l.setIfInBounds p.1 true := by split <;> simp
     rw [e]
     exact listC_same ds _ fun q hq => (updC_ne y v (fun e => h1.1 (by rw [← e]; exact List.mem_map_of_mem hq))).symm
   · have hne : q.1 ≠ p.1 := fun e => h1.1 (by rw [e]; exact List.mem_map_of_mem h)
     show (listC y ds (if (y q.1).isSome then l.setIfInBounds q.1 true else l)).setIfInBounds p.1 true = listC (updC y p.1 v) ds (if (updC y p.1 v q.1).isSome then l.setIfInBounds q.1 true else l)
     rw [updC_ne y v hne]
     exact listC_upd y v ds _ p h h1.2
def subsC {α : Type} : List α → List (List α)
  | [] => [[]]
  | x :: l => subsC l ++ (subsC l).map (x :: ·)
theorem filter_subsC {α : Type} (f : α → Bool) : ∀ l : List α, l.filter f ∈ subsC l
  | [] => by simp [subsC]
  | x :: l => by
   have := filter_subsC f l
   rw [List.filter_cons]
   split <;> simp [subsC, this]
def setAll (l : Array Bool) : List (Nat × Tmp) → Array Bool
  | [] => l
  | p :: ds => setAll (l.setIfInBounds p.1 true) ds
theorem listC_filter (y : Nat → Option Value) : ∀ (ds : List (Nat × Tmp)) (l : Array Bool), listC y ds l = setAll l (ds.filter fun p => (y p.1).isSome)
  | [], _ => rfl
  | p :: ds, l => by
   show listC y ds (if (y p.1).isSome then l.setIfInBounds p.1 true else l) = _
   rw [listC_filter y ds, List.filter_cons]
   split <;> rfl
def readyC (md : Region.Mode) (ops : Array Oper) (ds : List (Nat × Tmp)) (l : Array Bool) : Bool :=
  (subsC ds).all fun s => s.length == ds.length || (let r := Region.ready md ops (setAll l s); !r.isEmpty && r.all fun i => ds.any fun p => p.1 == i && !s.contains p)
def leftC (y : Nat → Option Value) (ds : List (Nat × Tmp)) : Nat := (ds.filter fun p => !(y p.1).isSome).length
theorem leftC_zero {y : Nat → Option Value} {ds : List (Nat × Tmp)} (h : leftC y ds = 0) : ∀ p, p ∈ ds → (y p.1).isSome = true := by
 intro p hp
 have h1 : ds.filter (fun p => !(y p.1).isSome) = [] := List.eq_nil_of_length_eq_zero h
 rw [List.filter_eq_nil_iff] at h1
 have := h1 p hp
 cases hs : (y p.1).isSome with
 | true => rfl
 | false => rw [hs] at this; exact absurd rfl this
theorem leftC_upd {y : Nat → Option Value} (v : Value) : ∀ {ds : List (Nat × Tmp)} {p : Nat × Tmp}, p ∈ ds → (ds.map Prod.fst).Nodup → y p.1 = none → leftC y ds = leftC (updC y p.1 v) ds + 1
  | [], _, h, _, _ => by cases h
  | q :: ds, p, h, h1, hn => by
   rw [List.map_cons, List.nodup_cons] at h1
   rcases List.mem_cons.1 h with rfl | h
   · have e : leftC (updC y p.1 v) ds = leftC y ds := by
       unfold leftC
       congr 1
       refine List.filter_congr fun q hq => ?_
       rw [updC_ne y v (fun e => h1.1 (by rw [← e]; exact List.mem_map_of_mem hq))]
     unfold leftC at e ⊢
     rw [List.filter_cons, List.filter_cons, updC_same, hn]
     rw [if_pos (by rfl), if_neg (by simp), List.length_cons, e]
   · have hne : q.1 ≠ p.1 := fun e => h1.1 (by rw [e]; exact List.mem_map_of_mem h)
     have ih := leftC_upd v h h1.2 hn
     unfold leftC at ih ⊢
     rw [List.filter_cons, List.filter_cons, updC_ne y v hne]
     split
     · rw [List.length_cons, List.length_cons, ih]
     · exact ih
def closedB (md : Region.Mode) (ops : Array Oper) (ds s : List (Nat × Tmp)) : Bool :=
  s.all fun r => match ops[r.1]? with
    | none => true
    | some o => o.after.all fun e => !Region.binds md e || ds.all fun q => !(q.1 == e.on) || s.contains q
def Cls (md : Region.Mode) (ops : Array Oper) (ds : List (Nat × Tmp)) (y : Nat → Option Value) : Prop :=
  ∀ r, r ∈ ds → (y r.1).isSome = true → ∀ o, ops[r.1]? = some o → ∀ e, e ∈ o.after → Region.binds md e = true → ∀ q, q ∈ ds → q.1 = e.on → (y q.1).isSome = true
theorem Cls.closed {ds : List (Nat × Tmp)} {y : Nat → Option Value} (h : Cls md ops ds y) : closedB md ops ds (ds.filter fun p => (y p.1).isSome) = true := by
 unfold closedB
 rw [List.all_eq_true]
 intro r hr
 obtain ⟨hr1, hr2⟩ := List.mem_filter.1 hr
 cases ho : ops[r.1]? with
 | none => rfl
 | some o =>
  show (o.after.all fun e => !Region.binds md e || ds.all fun q => !(q.1 == e.on) || (ds.filter fun p => (y p.1).isSome).contains q) = true
  rw [Array.all_eq_true']
  intro e he
  cases hb : Region.binds md e with
  | false => rfl
  | true =>
   show (false || _) = true
   rw [Bool.false_or, List.all_eq_true]
   intro q hq
   by_cases e' : q.1 = e.on
   · have := h r hr1 hr2 o ho e he hb q hq e'
     rw [List.contains_iff_mem.2 (List.mem_filter.2 ⟨hq, this⟩), Bool.or_true]
   · rw [show (q.1 == e.on) = false from by simpa using e']; rfl
def readyF (md : Region.Mode) (ops : Array Oper) (ds : List (Nat × Tmp)) (fs : List Nat) (b : Nat) (l : Array Bool) : Bool :=
  (subsC ds).all fun s => s.length == ds.length || !closedB md ops ds s || (let r := Region.ready md ops (setAll l s); match fs.find? fun q => r.contains q with
    | some q => Region.free md ops (setAll l s) q && !(q == b) && ds.any fun p => p.1 == q
    | none => !r.isEmpty && r.all fun i => ds.any fun p => p.1 == i && !s.contains p)
theorem wpAnyB_cloudF (ds : List (Nat × Tmp)) (fs : List Nat) (I : (Nat → Option Value) → World → Prop) {fuel : Nat} {l : Array Bool} {a : Act}
    (h1 : (ds.map Prod.fst).Nodup) (h2 : (ds.map Prod.snd).Nodup) (hs : Region.noSelect ops = true) (hr : readyF md ops ds fs b l = true) (hQ : ∀ c a (d : Tmp) v w, Q (.panic c) (a.put (some d) v) w → Q (.panic c) a w) (hS : ∀ y w, I y w → S w)
    (hstep : ∀ p, p ∈ ds → ∀ y w, y p.1 = none → (∀ q, q ∈ ds → (y q.1).isSome = (listC y ds l).getD q.1 true) → p.1 ∈ Region.ready md ops (listC y ds l) → I y w →
      if fs.contains p.1 then ∃ o v, ops[p.1]? = some o ∧ o.dst = some p.2 ∧ Yields P ops o v (putC y ds a) ∧ I (updC y p.1 v) w
      else wpOp P ops Q p.1 (fun a' w' => ∃ v, a' = (putC y ds a).put (some p.2) v ∧ I (updC y p.1 v) w') (putC y ds a) w)
    (hl : ∀ q, q ∈ ds → l.getD q.1 true = false)
    (hend : ∀ y w, (∀ p, p ∈ ds → (y p.1).isSome = true) → I y w → wpAnyB P md ops Q b S fuel (setAll l ds) (putC y ds a) w) :
    ∀ (m : Nat) (y : Nat → Option Value) (w : World), leftC y ds = m → Cls md ops ds y → I y w → wpAnyB P md ops Q b S (fuel + m) (listC y ds l) (putC y ds a) w := by
  intro m
  induction m with
  | zero =>
   intro y w hm hcl hI
   have hall := leftC_zero hm
   have e : listC y ds l = setAll l ds := by rw [listC_filter, List.filter_eq_self.2 hall]
   rw [e]
   exact hend y w hall hI
  | succ m ih =>
   intro y w hm hcl hI
   have hsub := List.all_eq_true.1 hr _ (filter_subsC (fun p : Nat × Tmp => (y p.1).isSome) ds)
   have hlen : (ds.filter fun p => (y p.1).isSome).length ≠ ds.length := by
    intro he
    have h3 : ds.filter (fun p => (y p.1).isSome) = ds := by
     have := (List.filter_sublist (p := fun p : Nat × Tmp => (y p.1).isSome) (l := ds)).eq_of_length he
     exact this
    rw [List.filter_eq_self] at h3
    have h4 : leftC y ds = 0 := by
     unfold leftC
     rw [List.filter_eq_nil_iff.2 (fun p hp => by rw [h3 p hp]; simp)]; rfl
    omega
   rw [hcl.closed, Bool.or_eq_true, Bool.or_eq_true] at hsub
   rcases hsub with (hsub | hsub) | hsub
   · exact absurd (by simpa using hsub) hlen
   · cases hsub
   rw [← listC_filter] at hsub
   dsimp only at hsub
   have hlc : ∀ (ds' : List (Nat × Tmp)) (l' : Array Bool) (q : Nat × Tmp), (∀ r, r ∈ ds' → r.1 = q.1 → (y r.1).isSome = true → False) → l'.getD q.1 true = false → (listC y ds' l').getD q.1 true = false := by
    intro ds'
    induction ds' with
    | nil => intro l' q _ h; exact h
    | cons r ds' ih2 =>
     intro l' q hq h
     refine ih2 _ q (fun r' hr' => hq r' (by simp [hr'])) ?_
     by_cases hrs : (y r.1).isSome = true
     · rw [if_pos hrs, getD_set_ne true (fun e => hq r (by simp) e hrs)]
       exact h
     · rw [if_neg hrs]; exact h
   have hlt : ∀ (ds' : List (Nat × Tmp)) (l' : Array Bool) (q : Nat × Tmp), l'.getD q.1 true = true → (listC y ds' l').getD q.1 true = true := by
    intro ds'
    induction ds' with
    | nil => intro l' q h; exact h
    | cons r ds' ih2 =>
     intro l' q h
     refine ih2 _ q ?_
     split
     · by_cases e : r.1 = q.1
       · rw [e]; simp [Array.getElem?_setIfInBounds]; split <;> simp
       · rw [getD_set_ne true e]; exact h
     · exact h
   have hlg : ∀ (ds' : List (Nat × Tmp)) (l' : Array Bool) (q : Nat × Tmp), q ∈ ds' → (y q.1).isSome = true → (listC y ds' l').getD q.1 true = true := by
    intro ds'
    induction ds' with
    | nil => intro l' q h; cases h
    | cons r ds' ih2 =>
     intro l' q h hs
     rcases List.mem_cons.1 h with rfl | h
     · refine hlt ds' _ q ?_
       rw [if_pos hs]; simp [Array.getElem?_setIfInBounds]; split <;> simp
     · exact ih2 _ q h hs
   have hsome : ∀ q, q ∈ ds → (y q.1).isSome = (listC y ds l).getD q.1 true := by
    intro q hq
    cases hs : (y q.1).isSome with
    | true => rw [hlg ds l q hq hs]
    | false => rw [hlc ds l q (fun r _ he hs' => by rw [he, hs] at hs'; cases hs') (hl q hq)]
   have hnone : ∀ p, p ∈ ds → p.1 ∈ Region.ready md ops (listC y ds l) → y p.1 = none := by
    intro p hp hpr
    have h5 := (mem_ready.1 hpr).1
    rw [← hsome p hp] at h5
    cases hy : y p.1 with
    | none => rfl
    | some v => rw [hy] at h5; cases h5
   have hcls : ∀ (p : Nat × Tmp) (v : Value), p ∈ ds → p.1 ∈ Region.ready md ops (listC y ds l) → Cls md ops ds (updC y p.1 v) := by
    intro p v hp hpr r hr hrs o ho e he hb q hq hqe
    by_cases e1 : q.1 = p.1
    · rw [e1, updC_same]; rfl
    · rw [updC_ne y v e1]
      by_cases e2 : r.1 = p.1
      · obtain ⟨_, o', ho', hall⟩ := mem_ready.1 hpr
        rw [e2, ho'] at ho
        cases ho
        have h8 := hall e he hb
        rw [hsome q hq, hqe]
        rw [Array.getD_eq_getD_getElem?] at h8 ⊢
        cases hx : (listC y ds l)[e.on]? with
        | none => rw [hx] at h8; cases h8
        | some z => rw [hx] at h8; exact h8
      · rw [updC_ne y v e2] at hrs
        exact hcl r hr hrs o ho e he hb q hq hqe
   cases hf : fs.find? (fun q => (Region.ready md ops (listC y ds l)).contains q) with
   | some q =>
    rw [hf] at hsub
    simp only [Bool.and_eq_true, Bool.not_eq_true', beq_eq_false_iff_ne] at hsub
    obtain ⟨⟨hfree, hqb⟩, hin⟩ := hsub
    obtain ⟨p, hp, hpq⟩ := List.any_eq_true.1 hin
    have hpq' : p.1 = q := by simpa using hpq
    subst hpq'
    have hpr : p.1 ∈ Region.ready md ops (listC y ds l) := by have := List.find?_some hf; simpa using this
    have hpf : fs.contains p.1 = true := by have := List.mem_of_find?_eq_some hf; simpa using this
    have hyn := hnone p hp hpr
    have h6 := hstep p hp y w hyn hsome hpr hI
    rw [if_pos hpf] at h6
    obtain ⟨o, v, ho, hd, hY, hI'⟩ := h6
    refine wpAnyB_firstP ho (Region.noSelect_spec hs) (fun c a w h => hQ c a p.2 v w (by rw [hd] at h; exact h)) hqb (fuel + m) _ _ w (Region.free_spec ho hfree) hpr hY (fun _ => hS _ _ hI) ?_
    rw [hd, listC_upd y v ds l p hp h1, putC_upd y v ds a p hp h1 h2]
    exact ih _ w (by have := leftC_upd v hp h1 hyn; omega) (hcls p v hp hpr) hI'
   | none =>
    rw [hf] at hsub
    simp only [Bool.and_eq_true, Bool.not_eq_true', List.isEmpty_eq_false_iff] at hsub
    obtain ⟨hne, hin⟩ := hsub
    refine ⟨fun h0 => absurd h0 hne, fun i hi => ?_⟩
    have hi' := List.all_eq_true.1 hin i hi
    obtain ⟨p, hp, hpi⟩ := List.any_eq_true.1 hi'
    simp only [Bool.and_eq_true, beq_iff_eq, Bool.not_eq_true'] at hpi
    obtain ⟨rfl, hns⟩ := hpi
    have hyn := hnone p hp hi
    have hnf : ¬ fs.contains p.1 = true := by
     intro hc
     have h7 := List.find?_eq_none.1 hf p.1 (by simpa using hc)
     exact h7 (by simpa using hi)
    have h6 := hstep p hp y w hyn hsome hi hI
    rw [if_neg hnf] at h6
    refine wpOp_mono ?_ h6
    rintro a' w' ⟨v, rfl, hI'⟩
    refine ⟨fun _ => hS _ _ hI', ?_⟩
    rw [listC_upd y v ds l p hp h1, putC_upd y v ds a p hp h1 h2]
    exact ih _ w' (by have := leftC_upd v hp h1 hyn; omega) (hcls p v hp hi) hI'
structure OpW (P : Program) (o : Oper) (a : Act) (w : World) (K : Act → World → Prop) (Q : Exit → Act → World → Prop) : Prop where
  out : Oper.wp P o a w K Q
theorem wpOp_bare {i : Nat} (dst : Option Tmp) (op : Op) (ty : TypeId) {K : Act → World → Prop} {a : Act} {w : World} (hi : isBare ops i dst op ty)
    (h : ∀ K' : Act → World → Prop, RowKit.Hid (∀ a w, K a w → K' a w) → OpW P (bareOp dst op ty) a w K' Q) : wpOp P ops Q i K a w := by
  obtain ⟨o, ho, rfl, h1, h2, h3⟩ := hi
  refine wpOp_step ho (fun K' hK' => ?_)
  rw [if_pos (by simp [Region.wanted, h3])]
  have h4 := (h K' (Lh hK')).out
  unfold Oper.wp at h4 ⊢
  rw [exec_bare (dst := o.dst) h1 h2]
  exact h4
theorem putC_none : ∀ (ds : List (Nat × Tmp)) (a : Act), putC (fun _ => none) ds a = a
  | [], _ => rfl
  | p :: ds, a => by
   show putC (fun _ => none) ds (a.put (some p.2) (a.eval (.tmp p.2))) = a
   have e : a.put (some p.2) (a.eval (.tmp p.2)) = a := by
    unfold Act.put Act.eval
    cases a with
    | mk tmps defers =>
     simp only
     congr 1
     apply Array.ext
     · simp
     · intro i hi1 hi2
       rw [Array.getElem_setIfInBounds]
       split
       · next e => subst e; simp [Array.getD, hi2]
       · rfl
   rw [e, putC_none ds a]
theorem listC_none : ∀ (ds : List (Nat × Tmp)) (l : Array Bool), listC (fun _ => none) ds l = l
  | [], _ => rfl
  | p :: ds, l => by
   show listC (fun _ => none) ds (if ((none : Option Value)).isSome then _ else l) = l
   rw [if_neg (by simp), listC_none ds l]
theorem leftC_none (ds : List (Nat × Tmp)) : leftC (fun _ => none) ds = ds.length := by
 show (ds.filter fun _ => true).length = ds.length
 rw [List.filter_eq_self.2 (fun p _ => rfl)]
theorem wpAnyB_cloud0 (ds : List (Nat × Tmp)) (fs : List Nat) (I : (Nat → Option Value) → World → Prop) {f fuel : Nat} {l : Array Bool} {a : Act} {w : World} (hf : f = fuel + ds.length)
    (h1 : (ds.map Prod.fst).Nodup) (h2 : (ds.map Prod.snd).Nodup) (hs : Region.noSelect ops = true) (hr : readyF md ops ds fs b l = true) (hl : (ds.all fun q => l.getD q.1 true == false) = true) (hQ : ∀ c a (d : Tmp) v w, Q (.panic c) (a.put (some d) v) w → Q (.panic c) a w) (hS : ∀ y w, I y w → S w)
    (hI : I (fun _ => none) w)
    (hstep : ∀ p, p ∈ ds → ∀ y w, y p.1 = none → (∀ q, q ∈ ds → (y q.1).isSome = (listC y ds l).getD q.1 true) → p.1 ∈ Region.ready md ops (listC y ds l) → I y w →
      if fs.contains p.1 then ∃ o v, ops[p.1]? = some o ∧ o.dst = some p.2 ∧ Yields P ops o v (putC y ds a) ∧ I (updC y p.1 v) w
      else wpOp P ops Q p.1 (fun a' w' => ∃ v, a' = (putC y ds a).put (some p.2) v ∧ I (updC y p.1 v) w') (putC y ds a) w)
    (hend : ∀ y w, (∀ p, p ∈ ds → (y p.1).isSome = true) → I y w → wpAnyB P md ops Q b S fuel (setAll l ds) (putC y ds a) w) : wpAnyB P md ops Q b S f l a w := by
  have h := wpAnyB_cloudF ds fs I h1 h2 hs hr hQ hS hstep (fun q hq => by simpa using List.all_eq_true.1 hl q hq) hend ds.length (fun _ => none) w (leftC_none ds) (fun r _ hrs => by cases hrs) hI
  rw [listC_none, putC_none] at h
  rw [hf]
  exact h
theorem yields_bare {i : Nat} {dst : Tmp} (op : Op) (ty : TypeId) {v : Value} {a : Act} {R : Value → Prop} (hi : isBare ops i (some dst) op ty) (h : ∀ w, (execOp a.eval (bareOp (some dst) op ty)).run P w = .ok (.value v) w) (hR : R v) :
    ∃ o u, ops[i]? = some o ∧ o.dst = some dst ∧ Yields P ops o u a ∧ R u := by
  obtain ⟨o, ho, hd, h1, h2, h3⟩ := hi
  exact ⟨o, v, ho, hd, .inl ⟨by simp [Region.wanted, h3], fun w => by rw [exec_bare (dst := some dst) h1 h2]; exact h w⟩, hR⟩
theorem takeF {fs : List Nat} {i : Nat} {A B : Prop} (h : fs.contains i = true) (hA : A) : if fs.contains i then A else B := by rw [if_pos h]; exact hA
theorem takeN {fs : List Nat} {i : Nat} {A B : Prop} (h : fs.contains i = false) (hB : B) : if fs.contains i then A else B := by rw [if_neg (by rw [h]; simp)]; exact hB
theorem ready_after {i j : Nat} {l : Array Bool} {o : Oper} (ho : ops[i]? = some o) (h : i ∈ Region.ready md ops l) (hj : (o.after.any fun e => Region.binds md e && e.on == j) = true) : l.getD j false = true := by
 obtain ⟨_, o', ho', hall⟩ := mem_ready.1 h
 rw [ho] at ho'
 cases ho'
 obtain ⟨e, he, hx⟩ := Array.any_eq_true'.1 hj
 simp only [Bool.and_eq_true, beq_iff_eq] at hx
 rw [← hx.2]
 exact hall e he hx.1
theorem depC {ds : List (Nat × Tmp)} {y : Nat → Option Value} {l : Array Bool} {i j : Nat} {d : Tmp} {o : Oper} (hy : ∀ q, q ∈ ds → (y q.1).isSome = (listC y ds l).getD q.1 true) (hq : (j, d) ∈ ds) (hrd : i ∈ Region.ready md ops (listC y ds l)) (ho : ops[i]? = some o)
    (hj : (o.after.any fun e => Region.binds md e && e.on == j) = true) : ∃ v, y j = some v := by
  have h1 := ready_after ho hrd hj
  have h2 := hy _ hq
  have h3 : (listC y ds l).getD j true = true := by
   rw [Array.getD_eq_getD_getElem?] at h1 ⊢
   cases he : (listC y ds l)[j]? with
   | none => rfl
   | some b => rw [he] at h1; exact h1
  rw [h3] at h2
  exact Option.isSome_iff_exists.1 h2
theorem eval_putC_not {y : Nat → Option Value} : ∀ (ds : List (Nat × Tmp)) (a : Act) (d : Tmp), d ∉ ds.map Prod.snd → (putC y ds a).eval (.tmp d) = a.eval (.tmp d)
  | [], _, _, _ => rfl
  | p :: ds, a, d, h => by
   show (putC y ds (a.put (some p.2) _)).eval (.tmp d) = _
   rw [eval_putC_not ds _ d (fun hm => h (by simp at hm ⊢; exact .inr hm)), eval_put_ne a _ (fun e => h (by simp [e]))]
theorem size_put (a : Act) (d : Option Tmp) (v : Value) : (a.put d v).tmps.size = a.tmps.size := by
 cases d <;> simp [Act.put]
theorem eval_put_same (a : Act) (d : Tmp) (v : Value) (h : d < a.tmps.size) : (a.put (some d) v).eval (.tmp d) = v := by
 simp [Act.put, Act.eval, h]
theorem eval_putC {y : Nat → Option Value} {j : Nat} {d : Tmp} {v : Value} : ∀ (ds : List (Nat × Tmp)) (a : Act), (j, d) ∈ ds → (ds.map Prod.snd).Nodup → y j = some v → d < a.tmps.size → (putC y ds a).eval (.tmp d) = v
  | [], _, h, _, _, _ => by cases h
  | p :: ds, a, h, hn, hv, hd => by
   rw [List.map_cons, List.nodup_cons] at hn
   rcases List.mem_cons.1 h with h | h
   · subst h
     show (putC y ds (a.put (some d) ((y j).getD (a.eval (.tmp d))))).eval (.tmp d) = v
     rw [eval_putC_not ds _ d hn.1, hv, eval_put_same _ _ _ hd]; rfl
   · exact eval_putC ds _ h hn.2 hv (by rw [size_put]; exact hd)
theorem wp_of_run {o : Oper} {a : Act} {w w' : World} {v : Value} {K : Act → World → Prop} (h : (execOp a.eval o).run P w = .ok (.value v) w') (hk : K (a.put o.dst v) w') : OpW P o a w K Q := by
 refine ⟨?_⟩
 unfold Oper.wp; rw [h]; exact hk
theorem wp_of_enter {o : Oper} {a : Act} {w w' : World} {f : FuncId} {args : Array Value} {R : Ending → World → Prop} {K : Act → World → Prop} (h : (execOp a.eval o).run P w = .ok (.enter f args) w') (hc : Calls P f args w' R)
    (hk : ∀ e w'', R e w'' → ∃ v, e = .returned v ∧ K (a.put o.dst v) w'') : OpW P o a w K Q := by
  refine ⟨?_⟩
  unfold Oper.wp
  rw [h, Oper.upon_enter]
  refine hc.mono fun e w'' hr => ?_
  obtain ⟨v, rfl, hK⟩ := hk e w'' hr
  exact hK
end
end Go.Proofs.YtkjkdfhjfnoalaaGreatDoor
