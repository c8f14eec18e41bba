/- The reader's bit. -/
import Derived.Test.YtlbldpkgnonbpaaGreatDoorZqH
import Derived.Test.YtlbldpkgnonbpaaGreatDoorZqL
import Derived.Deep.Cut
import Derived.WalkMore
import Derived.Test.YtlbldpkgnonbpaaGreatDoorZqG
set_option linter.unusedSimpArgs false
set_option linter.unusedVariables false
set_option maxRecDepth 100000
namespace Go.Proofs.YtlbldpkgnonbpaaGreatDoor
open Go Go.RowKit Num Sha
abbrev Gro (r : Nat) (w w' : World) : Prop := w.grownBy w' (some r)
theorem Gro.refl (r : Nat) (w : World) : Gro r w w := ⟨rfl, rfl, rfl, Nat.le_refl _, fun _ _ _ => rfl⟩
theorem Gro.trans {r : Nat} {a b c : World} (h : Gro r a b) (k : Gro r b c) : Gro r a c :=
  ⟨k.os.trans h.os, k.tape.trans h.tape, k.output.trans h.output, Nat.le_trans h.size k.size, fun i hi hn => (k.block i (Nat.lt_of_lt_of_le hi h.size) hn).trans (h.block i hi hn)⟩
theorem Gro.below {r : Nat} {a b c : World} (h : Gro r a b) (k : Below b.heap.size b c) : Gro r a c :=
  ⟨k.os.trans h.os, k.tape.trans h.tape, k.output.trans h.output, Nat.le_trans h.size k.size, fun i hi hn => (k.block i (Nat.lt_of_lt_of_le hi h.size)).trans (h.block i hi hn)⟩
theorem Gro.drew {r : Nat} {a b : World} (h : Gro r a b) : Gro r a b.drew := ⟨h.os, h.tape, h.output, h.size, h.block⟩
theorem Gro.alloc {r : Nat} {a b : World} (h : Gro r a b) (o : Obj) : Gro r a (b.alloc o) := h.below ((Below.refl _ _).alloc (Nat.le_refl _) o)
theorem Gro.set {r : Nat} {a b : World} (h : Gro r a b) (p : Addr) (hp : p.block = r ∨ a.heap.size ≤ p.block) (v : Value) : Gro r a (b.setCell p v) :=
  ⟨h.os, h.tape, h.output, by simpa using h.size, fun i hi hn => by
   rw [Below.heap_setCell b p v i (by rcases hp with hp | hp; · intro e; apply hn; rw [e, hp]
                                      · omega)]
   exact h.block i hi hn⟩
theorem Gro.blw {r n : Nat} {a b : World} (h : Gro r a b) (hn : n ≤ r) (hz : n ≤ a.heap.size) : Below n a b :=
  ⟨h.os, h.tape, h.output, h.size, fun k hk => h.block k (by omega) (by intro e; injection e with e; omega)⟩
theorem Arr.gro {k : IntKind} {w w' : World} {b r : Nat} {xs : List Int} (h : Arr k w b xs) (g : Gro r w w') (hn : b ≠ r) : Arr k w' b xs :=
  ⟨fun i hi => (World.cell?_of_block (w := w) (a := ⟨b, i, none⟩) (g.block b h.lt (by simpa using hn))).trans (h.c i hi),
   fun i => (World.frozen?_of_block (w := w) (a := ⟨b, i, none⟩) (g.block b h.lt (by simpa using hn))).trans (h.f i), Nat.lt_of_lt_of_le h.lt g.size⟩
def Rd (w0 W : World) (Br : Nat) (xs : List Int) : Prop := ∃ a c, RBox W Br (.slice a xs.length c) ∧ ShI .u8 w0 a xs.length xs ∧ xs.length ≤ c
theorem Rd.keepN {w0 W W' : World} {Br n : Nat} {xs : List Int} (h : Rd w0 W Br xs) (hb : Below n W W') (hn : Br < n) : Rd w0 W' Br xs := by
 obtain ⟨a, c, h1, h2, h3⟩ := h
 exact ⟨a, c, h1.keepN hb hn, h2, h3⟩
theorem Rd.lt {w0 W : World} {Br : Nat} {xs : List Int} (h : Rd w0 W Br xs) : Br < W.heap.size := by
 obtain ⟨a, c, h1, h2, h3⟩ := h
 exact h1.lt
theorem Rd.keep {w0 W W' : World} {Br : Nat} {xs : List Int} (h : Rd w0 W Br xs) (hb : Below W.heap.size W W') : Rd w0 W' Br xs := h.keepN hb h.lt
theorem Rd.drew {w0 W : World} {Br : Nat} {xs : List Int} (h : Rd w0 W Br xs) : Rd w0 W.drew Br xs := h.keep (Below.refl _ _).drew
theorem Rd.alloc {w0 W : World} {Br : Nat} {xs : List Int} (h : Rd w0 W Br xs) (o : Obj) : Rd w0 (W.alloc o) Br xs := h.keep ((Below.refl _ _).alloc (Nat.le_refl _) o)
theorem Rd.set {w0 W : World} {Br : Nat} {xs : List Int} (h : Rd w0 W Br xs) (p : Addr) (u : Value) (hp : p.block ≠ Br) : Rd w0 (W.setCell p u) Br xs := by
 obtain ⟨a, c, h1, h2, h3⟩ := h
 exact ⟨a, c, h1.other p u hp, h2, h3⟩
theorem Bytes.drop {xs : List Int} (h : Bytes xs) (k : Nat) : Bytes (xs.drop k) := fun x hx => h x (List.mem_of_mem_drop hx)
def num8 (xs : List Int) (j : Nat) : Int := beN ((xs.drop (8 * j)).take 8)
def bitN (xs : List Int) : Bt := ⟨num8 xs 0, num8 xs 2, num8 xs 1, num8 xs 3, num8 xs 4, num8 xs 5, num8 xs 6, num8 xs 7⟩
def Bt.l (z : Bt) : List Int := [z.r0, z.r1, z.s0, z.s1, z.c0, z.c1, z.z0, z.z1]
structure TwoB (W : World) (B : Nat) (v1 v2 : Value) : Prop where
  c0 : W.cell? ⟨B, 0, none⟩ = some v1
  c1 : W.cell? ⟨B, 1, none⟩ = some v2
  lt : B < W.heap.size
theorem TwoB.at (W : World) (v1 v2 : Value) (T : TypeId) (b : Nat) (hb : b = W.heap.size) : TwoB (W.alloc (.cells #[v1, v2] T)) b v1 v2 := by
 subst hb
 refine ⟨?_, ?_, by simp⟩
 · rw [World.cell?_alloc_new]; rfl
 · rw [World.cell?_alloc_new]; rfl
theorem TwoB.keep {W W' : World} {B : Nat} {v1 v2 : Value} (h : TwoB W B v1 v2) (hb : Below W.heap.size W W') : TwoB W' B v1 v2 :=
  ⟨(hb.cell (p := ⟨B, 0, none⟩) h.lt).trans h.c0, (hb.cell (p := ⟨B, 1, none⟩) h.lt).trans h.c1, Nat.lt_of_lt_of_le h.lt hb.size⟩
theorem TwoB.drew {W : World} {B : Nat} {v1 v2 : Value} (h : TwoB W B v1 v2) : TwoB W.drew B v1 v2 := h.keep (Below.refl _ _).drew
theorem TwoB.gro {W W' : World} {B r : Nat} {v1 v2 : Value} (h : TwoB W B v1 v2) (g : Gro r W W') (hn : B ≠ r) : TwoB W' B v1 v2 :=
  ⟨(World.cell?_of_block (w := W) (a := ⟨B, 0, none⟩) (g.block B h.lt (by simpa using hn))).trans h.c0, (World.cell?_of_block (w := W) (a := ⟨B, 1, none⟩) (g.block B h.lt (by simpa using hn))).trans h.c1, Nat.lt_of_lt_of_le h.lt g.size⟩
theorem TwoB.set {W : World} {B : Nat} {v1 v2 : Value} (h : TwoB W B v1 v2) (p : Addr) (u : Value) (hp : p.block ≠ B) : TwoB (W.setCell p u) B v1 v2 :=
  ⟨by rw [World.cell?_setCell_other _ _ _ _ (show p ≠ ⟨B, 0, none⟩ from fun e => hp (by rw [e]))]; exact h.c0, by rw [World.cell?_setCell_other _ _ _ _ (show p ≠ ⟨B, 1, none⟩ from fun e => hp (by rw [e]))]; exact h.c1, by simpa using h.lt⟩
open Go Go.RowKit Num Sha
structure Cl (w : World) (B : Nat) (l : List Value) : Prop where
  c : ∀ i u, l[i]? = some u → w.cell? ⟨B, i, none⟩ = some u
  f : ∀ i, w.frozen? ⟨B, i, none⟩ = false
  lt : B < w.heap.size
theorem Cl.at (w : World) (l : List Value) (t : TypeId) (b : Nat) (hb : b = w.heap.size) : Cl (w.alloc (.cells l.toArray t)) b l := by
 subst hb
 refine ⟨fun i u hu => ?_, fun i => by simp, by simp⟩
 rw [World.cell?_alloc_new]; simpa using hu
theorem Cl.keepN {w w' : World} {B n : Nat} {l : List Value} (h : Cl w B l) (hb : Below n w w') (hn : B < n) : Cl w' B l :=
  ⟨fun i u hu => (hb.cell (p := ⟨B, i, none⟩) hn).trans (h.c i u hu), fun i => (hb.frozen (p := ⟨B, i, none⟩) hn).trans (h.f i), Nat.lt_of_lt_of_le h.lt hb.size⟩
theorem Cl.keep {w w' : World} {B : Nat} {l : List Value} (h : Cl w B l) (hb : Below w.heap.size w w') : Cl w' B l := h.keepN hb h.lt
theorem Cl.drew {w : World} {B : Nat} {l : List Value} (h : Cl w B l) : Cl w.drew B l := h.keep (Below.refl _ _).drew
theorem Cl.alloc {w : World} {B : Nat} {l : List Value} (h : Cl w B l) (o : Obj) : Cl (w.alloc o) B l := h.keep ((Below.refl _ _).alloc (Nat.le_refl _) o)
theorem Cl.gro {w w' : World} {B r : Nat} {l : List Value} (h : Cl w B l) (g : Gro r w w') (hn : B ≠ r) : Cl w' B l :=
  ⟨fun i u hu => (World.cell?_of_block (w := w) (a := ⟨B, i, none⟩) (g.block B h.lt (by simpa using hn))).trans (h.c i u hu),
   fun i => (World.frozen?_of_block (w := w) (a := ⟨B, i, none⟩) (g.block B h.lt (by simpa using hn))).trans (h.f i), Nat.lt_of_lt_of_le h.lt g.size⟩
theorem Cl.far {w : World} {B : Nat} {l : List Value} (h : Cl w B l) (p : Addr) (u : Value) (hp : p.block ≠ B) : Cl (w.setCell p u) B l :=
  ⟨fun i v hv => by rw [World.cell?_setCell_other _ _ _ _ (show p ≠ ⟨B, i, none⟩ from fun e => hp (by rw [e]))]; exact h.c i v hv, fun i => by rw [World.frozen?_setCell]; exact h.f i, by simpa using h.lt⟩
theorem Cl.set {w : World} {B : Nat} {l m : List Value} (h : Cl w B l) (i : Nat) (u : Value) (hi : i < l.length) (hm : l.set i u = m) : Cl (w.setCell ⟨B, i, none⟩ u) B m := by
 subst hm
 refine ⟨fun j v hv => ?_, fun j => by rw [World.frozen?_setCell]; exact h.f j, by simpa using h.lt⟩
 by_cases e : j = i
 · subst e
   rw [List.getElem?_set_self hi] at hv
   cases hv
   refine World.cell?_setCell_same' _ _ _ ?_
   rw [h.c j l[j] (List.getElem?_eq_getElem hi)]; try rfl
 · rw [List.getElem?_set_ne (Ne.symm e)] at hv
   rw [World.cell?_setCell_other _ _ _ _ (show (⟨B, i, none⟩ : Addr) ≠ ⟨B, j, none⟩ from fun h0 => e (by injection h0 with _ h1; exact h1.symm))]
   exact h.c j v hv
theorem Cl.k11 {w : World} {B : Nat} {v0 v1 v2 v3 v4 v5 v6 v7 v8 v9 v10 : Value} (h : Cl w B [v0, v1, v2, v3, v4, v5, v6, v7, v8, v9, v10]) : (w.cell? ⟨B, 0, none⟩ = some v0 ∧ w.cell? ⟨B, 1, none⟩ = some v1 ∧ w.cell? ⟨B, 2, none⟩ = some v2 ∧ w.cell? ⟨B, 3, none⟩ = some v3 ∧ w.cell? ⟨B, 4, none⟩ = some v4 ∧ w.cell? ⟨B, 5, none⟩ = some v5 ∧ w.cell? ⟨B, 6, none⟩ = some v6 ∧ w.cell? ⟨B, 7, none⟩ = some v7 ∧ w.cell? ⟨B, 8, none⟩ = some v8 ∧ w.cell? ⟨B, 9, none⟩ = some v9 ∧ w.cell? ⟨B, 10, none⟩ = some v10) ∧ (w.frozen? ⟨B, 0, none⟩ = false ∧ w.frozen? ⟨B, 1, none⟩ = false ∧ w.frozen? ⟨B, 2, none⟩ = false ∧ w.frozen? ⟨B, 3, none⟩ = false ∧ w.frozen? ⟨B, 4, none⟩ = false ∧ w.frozen? ⟨B, 5, none⟩ = false ∧ w.frozen? ⟨B, 6, none⟩ = false ∧ w.frozen? ⟨B, 7, none⟩ = false ∧ w.frozen? ⟨B, 8, none⟩ = false ∧ w.frozen? ⟨B, 9, none⟩ = false ∧ w.frozen? ⟨B, 10, none⟩ = false) :=
  ⟨⟨h.c 0 _ rfl, h.c 1 _ rfl, h.c 2 _ rfl, h.c 3 _ rfl, h.c 4 _ rfl, h.c 5 _ rfl, h.c 6 _ rfl, h.c 7 _ rfl, h.c 8 _ rfl, h.c 9 _ rfl, h.c 10 _ rfl⟩, h.f 0, h.f 1, h.f 2, h.f 3, h.f 4, h.f 5, h.f 6, h.f 7, h.f 8, h.f 9, h.f 10⟩
theorem own_gro {W W' : World} {r n₀ : Nat} {e : TypeId} {sz n : Nat} {v : Value} {xs : List Value} (h : W.ownsRow n₀ e sz v n xs) (g : Gro r W W') (hn : r < n₀) : W'.ownsRow n₀ e sz v n xs := by
 refine World.ownsRow.kept h g ?_
 cases hv : v.ownBlock with
 | none => exact .inl rfl
 | some k => exact .inr (by have := (h.lt k hv).1; intro e; injection e with e; omega)
theorem own_far {W : World} {n₀ : Nat} {e : TypeId} {sz n : Nat} {v : Value} {xs : List Value} (h : W.ownsRow n₀ e sz v n xs) (p : Addr) (u : Value) (hn : p.block < n₀) : (W.setCell p u).ownsRow n₀ e sz v n xs :=
  own_gro h ((Gro.refl p.block W).set p (.inl rfl) u) hn
def boxesN (ys : List Int) (k : Nat) : List (Int × Int) := (List.range k).map fun i => (num8 ys (2 * i), num8 ys (2 * i + 1))
def bitsN (ys : List Int) (n k : Nat) : List Bt := (List.range k).map fun i => bitN (ys.drop (16 * n + 64 * i))
def readF (xs : List Int) : Int × List (Int × Int) × List Bt × Bool × Bt :=
  let n := (xs.getD 0 0).toNat
  let m := (xs.getD 1 0).toNat
  if xs.length < 3 then (10, [], [], false, Bt.zero)
  else if 10 < n ∨ 10 < m ∨ 1 < xs.getD 2 0 then (11, [], [], false, Bt.zero)
  else if xs.length < 3 + 16 * n + 64 * (m + 1) then (10, [], [], false, Bt.zero)
  else if 3 + 16 * n + 64 * (m + 1) < xs.length then (11, [], [], false, Bt.zero)
  else (0, boxesN (xs.drop 3) n, bitsN (xs.drop 3) n m, decide (xs.getD 2 0 = 1), bitN ((xs.drop 3).drop (16 * n + 64 * m)))
def RetRd (w : World) (xs : List Int) (e : Ending) (w' : World) : Prop :=
  ∃ V : Vt, e = .returned (.tuple #[V.v, .int .i64 (readF xs).1]) ∧ VtIn w' V ∧ V.bs = (readF xs).2.1 ∧ V.ps = (readF xs).2.2.1 ∧ V.one = (readF xs).2.2.2.1 ∧ V.z = (readF xs).2.2.2.2 ∧ Below w.heap.size w w'
def zeroV : Vt := ⟨none, 0, 0, [], none, 0, 0, [], false, Bt.zero⟩
theorem wp_push_s {w : World} {o : Oper} {a : Act} {K : Act → World → Prop} {Q : Exit → Act → World → Prop} (s x : Operand) (ho : o.op = .call { callee := .builtin .append, args := #[s, x], argTypes := #[27, 27] })
    (base n b : Nat) (v : Value) (xs : List Value) (y z : Int) (hs : a.eval s = v) (hx : a.eval x = .slice (some ⟨b, 0, none⟩) 1 1) (hown : w.ownsRow base 75 2 v n xs) (hc : ∀ j u, ([.int .u64 y, .int .u64 z] : List Value)[j]? = some u → w.cell? ((⟨b, 0, none⟩ : Addr).add j) = some u) (hn : n ≤ 1000000) (hb : base ≤ w.heap.size)
    (h : ∀ v' w', w'.ownsRow base 75 2 v' (n + 1) (xs ++ [.int .u64 y, .int .u64 z]) → w.grownBy w' v.ownBlock → K (a.put o.dst v') w') : o.wp Tryz.prog a w K Q := by
  obtain ⟨j0, ji, jz0, jz1, jz2⟩ := info_parts (P := Tryz.prog) (e := 75) (z := .agg #[.int .u64 0, .int .u64 0]) (size := 2) (bytes := 16) (by kernel_rfl)
  exact wp_append_own w s x 27 ho base 75 j0 _ 2 16 Tryz.underlying27 ji jz0 jz1 jz2 rfl (by decide) v n xs hs hown ⟨b, 0, none⟩ 1 1 [.int .u64 y, .int .u64 z] hx rfl hc (fun u hu => by simp at hu; rcases hu with rfl | rfl <;> rfl) (by unfold maxLen; omega) (by omega) hb (fun v' w' h1 h2 _ => h v' w' h1 h2)
open Go Go.RowKit Go.Shelf Num Sha
attribute [local go_sem] Oper.semAt_some
def restS (q : Int) : Int := 18446744073709551616 % q
def skipS (seed : List Int) (i q : Int) (k : Nat) : Bool := decide (0 < restS q) && decide (18446744073709551616 - restS q ≤ tryS seed i k)
def drawS (seed : List Int) (i q : Int) : Option Int := ((List.range 16).find? fun k => !skipS seed i q k).map fun k => tryS seed i k % q
def drawV (o : Option Int) : Value := match o with
  | some x => .tuple #[.int .u64 x, .int .i64 0]
  | none => .tuple #[.int .u64 0, .int .i64 6]
theorem drawS_none {seed : List Int} {i q : Int} (h : ∀ y, y ∈ List.range 16 → skipS seed i q y = true) : drawS seed i q = none := by
 unfold drawS
 rw [List.find?_eq_none.2 (fun x hx => by rw [h x hx]; simp)]
 rfl
theorem drawS_hit {seed : List Int} {i q : Int} {k x : Nat} {pre : List Nat} (hk : k ≤ 16) (h : pre ++ [x] = List.range k) (hs : ∀ y, y ∈ pre → skipS seed i q y = true) (hx : skipS seed i q x = false) : drawS seed i q = some (tryS seed i x % q) := by
 cases k with
 | zero => simp at h
 | succ m =>
  rw [List.range_succ] at h
  obtain ⟨rfl, e⟩ := List.append_inj' h rfl
  injection e with e
  subst e
  unfold drawS
  have hf : (List.range 16).find? (fun k => !skipS seed i q k) = some x := by
   rw [List.find?_eq_some_iff_append]
   refine ⟨by rw [hx]; rfl, List.range x, (List.range 16).drop (x + 1), ?_, fun a ha => by rw [hs a ha]; rfl⟩
   have h1 := List.take_append_drop x (List.range 16)
   rw [List.take_range, show min x 16 = x by omega, List.drop_eq_getElem_cons (by simp; omega), List.getElem_range] at h1
   exact h1.symm
  rw [hf]
  rfl
theorem tryS_u (seed : List Int) (i : Int) (k : Nat) : 0 ≤ tryS seed i k ∧ tryS seed i k < 18446744073709551616 := by
 have h := beN_bound (show Bytes (shaS (tryB seed i k)) from shaS_bytes _) 8 (by rw [shaS_len]; omega)
 exact ⟨h.1, by have := h.2; unfold tryS; omega⟩
structure DBx (W : World) (b : Nat) (q R u e : Int) : Prop where
  q : Cl W (b + 1) [.int .u64 q]
  u : Cl W (b + 1 + 1) [.int .u64 u]
  e : Cl W (b + 1 + 1 + 1) [.int .i64 e]
  r : Cl W (b + 1 + 1 + 1 + 1) [.int .u64 R]
theorem DBx.keepN {W W' : World} {b n : Nat} {q R u e : Int} (h : DBx W b q R u e) (hb : Below n W W') (hn : b + 5 ≤ n) : DBx W' b q R u e :=
  ⟨h.q.keepN hb (by omega), h.u.keepN hb (by omega), h.e.keepN hb (by omega), h.r.keepN hb (by omega)⟩
theorem res_2c {w : World} {fn : Func} {c1 c2 : Tmp} {b1 b2 : Nat} {x y : Int} (h : fn.results = #[.cell c1 22, .cell c2 38]) (h1 : w.cell? ⟨b1, 0, none⟩ = some (.int .u64 x)) (h2 : w.cell? ⟨b2, 0, none⟩ = some (.int .i64 y)) (tmps : Array Value)
    (hc1 : tmps[c1]?.getD undef = .pointer (some ⟨b1, 0, none⟩)) (hc2 : tmps[c2]?.getD undef = .pointer (some ⟨b2, 0, none⟩)) : (results fn tmps).run Tryz.prog w = .ok (.tuple #[.int .u64 x, .int .i64 y]) w := by
  simp [results, h, hc1, hc2, go_sem, h1, h2]
set_option maxHeartbeats 8000000 in
theorem draw_any {seed : List Int} {i q : Int} (w : World) (hT : Tabs w) (hi0 : 0 ≤ i) (hi1 : i < 4294967296) (hsl : seed.length = 32) (hby : ByteL seed) (hq0 : 0 < q) (hq1 : q < 18446744073709551616) :
    Calls Tryz.prog 97 #[.agg (valV .u8 seed), .int .u32 i, .int .u64 q] w fun e w' => e = .returned (drawV (drawS seed i q)) ∧ Below w.heap.size w w' := by
  have HT := Lh hT
  have HSL := Lh hsl
  have HBY := Lh hby
  have hqn : ¬ (q = 0) := by omega
  have hneg : IntKind.u64.wrap (-q) = 18446744073709551616 - q := by rw [show (-q : Int) = (18446744073709551616 - q) - 18446744073709551616 by omega]; simp [IntKind.wrap, IntKind.bits, IntKind.signed]; omega
  have F_a := Lh (Arr.new .u8 w seed 141 w.heap.size rfl)
  clear hT hsl hby
  refine (callsIn_wide (n := 6)).1 ?_
  refine callsIn_of_wp_marks Tryz.func97 rfl trivial ?_ rfl
  simp only [Tryz.ntmps97, List.size_toArray, List.length_cons, List.length_nil, Nat.reduceAdd, Nat.reduceSub, Array.replicate_succ, Array.replicate_zero, List.push_toArray, List.append_toArray, List.nil_append, List.cons_append]
  refine wpIn_wide.2 ?_
  go_wp2_with fail
  go_step3
  have F_5 := Lh (show Arr .u8 ((((w.alloc (.cells (valV .u8 seed) 141)).alloc (.cells #[.int .u64 q] 22)).alloc (.cells #[.int .u64 0] 22)).alloc (.cells #[.int .i64 0] 38) |>.alloc (.cells #[.int .u64 (18446744073709551616 % q)] 22)) w.heap.size seed from (((F_a.o.alloc _).alloc _).alloc _).alloc _)
  go_wp2_with fail
  go_step3
  go_wp2_with (refine wpL_loadArr rfl 141 .u8 (.tmp 3) w.heap.size seed 32 5 rfl rfl Tryz.underlying141 (by rw [HSL.o]; kernel_rfl) F_5.o ?_; simp only [sY])
  refine (callsIn_wide.1 (tries_in 1 _)).mono ?_
  rintro e w1 ⟨rfl, rfl⟩
  go_wp2_with fail
  obtain ⟨W0, hW0⟩ : ∃ W0, (((((((w.alloc (.cells (valV .u8 seed) 141)).alloc (.cells #[.int .u64 q] 22)).alloc (.cells #[.int .u64 0] 22)).alloc (.cells #[.int .i64 0] 38)).alloc (.cells #[.int .u64 (18446744073709551616 % q)] 22)).alloc (.cells (valV .u8 seed) 141)).alloc (.cells #[.int .u32 i] 108)) = W0 := ⟨_, rfl⟩
  have hB0 : Below w.heap.size w W0 := by rw [← hW0]; exact (((((((Below.refl _ _).alloc (by simp <;> omega) _).alloc (by simp <;> omega) _).alloc (by simp <;> omega) _).alloc (by simp <;> omega) _).alloc (by simp <;> omega) _).alloc (by simp <;> omega) _).alloc (by simp <;> omega) _
  have hsz : W0.heap.size = w.heap.size + 7 := by rw [← hW0]; simp
  have hD0 : DBx W0 w.heap.size q (18446744073709551616 % q) 0 0 := by rw [← hW0]; exact ⟨(((((Cl.at (w.alloc (.cells (valV .u8 seed) 141)) [.int .u64 q] _ (w.heap.size + 1) (by simp)).alloc _).alloc _).alloc _).alloc _).alloc _, ((((Cl.at ((w.alloc (.cells (valV .u8 seed) 141)).alloc (.cells #[.int .u64 q] 22)) [.int .u64 0] _ (w.heap.size + 1 + 1) (by simp)).alloc _).alloc _).alloc _).alloc _, (((Cl.at (((w.alloc (.cells (valV .u8 seed) 141)).alloc (.cells #[.int .u64 q] 22)).alloc (.cells #[.int .u64 0] 22)) [.int .i64 0] _ (w.heap.size + 1 + 1 + 1) (by simp)).alloc _).alloc _).alloc _, ((Cl.at ((((w.alloc (.cells (valV .u8 seed) 141)).alloc (.cells #[.int .u64 q] 22)).alloc (.cells #[.int .u64 0] 22)).alloc (.cells #[.int .i64 0] 38)) [.int .u64 (18446744073709551616 % q)] _ (w.heap.size + 1 + 1 + 1 + 1) (by simp)).alloc _).alloc _⟩
  have hU0 : UrnB W0 (w.heap.size + 1 + 1 + 1 + 1 + 1) (w.heap.size + 1 + 1 + 1 + 1 + 1 + 1) seed i := by rw [← hW0]; exact by have h := UrnB.new (seed := seed) (i := i) (((((w.alloc (.cells (valV .u8 seed) 141)).alloc (.cells #[.int .u64 q] 22)).alloc (.cells #[.int .u64 0] 22)).alloc (.cells #[.int .i64 0] 38)).alloc (.cells #[.int .u64 (18446744073709551616 % q)] 22)) 141 108; simpa using h
  have HT0 := Lh (HT.o.below hB0)
  have HU0 := Lh hU0
  rw [hW0]
  obtain ⟨R, hR⟩ : ∃ R, 18446744073709551616 % q = R := ⟨_, rfl⟩
  have HRS := Lh (show restS q = R from hR)
  have hR0 : 0 ≤ R := by rw [← hR]; exact Int.emod_nonneg _ (by omega)
  have hR1 : R < 18446744073709551616 := by rw [← hR]; have := Int.emod_lt_of_pos 18446744073709551616 hq0; omega
  rw [hR] at hD0 ⊢
  clear hW0 hR hU0 F_a F_5 HT
  have HOW : ∀ (pre : List Nat) (A B : World) row, ((∀ y, y ∈ pre → skipS seed i q y = true) ∧ DBx A w.heap.size q R 0 0 ∧ W0.heap.size ≤ A.heap.size ∧ Below w.heap.size w A) → A.grownBy B row → (∀ r, row = some r → W0.heap.size ≤ r ∧ ∃ o : Obj, A.heap[r]? = some o ∧ o.isCells = false) →
      ((∀ y, y ∈ pre → skipS seed i q y = true) ∧ DBx B w.heap.size q R 0 0 ∧ W0.heap.size ≤ B.heap.size ∧ Below w.heap.size w B) := fun pre A B row hs hg hr => by
    have hb : Below W0.heap.size A B := (Below.refl _ _).grown hg hs.2.2.1 (fun k e => (hr k e).1)
    exact ⟨hs.1, hs.2.1.keepN hb (by omega), Nat.le_trans hs.2.2.1 hg.size, hs.2.2.2.trans (hb.mono (by omega))⟩
  have HOX : ∀ (c : Code), OwnFrom W0.heap.size (fun (pre : List Nat) (A : World) => c = .ret ∧ ∃ x pre', pre = pre' ++ [x] ∧ (∀ y, y ∈ pre' → skipS seed i q y = true) ∧ skipS seed i q x = false ∧ DBx A w.heap.size q R (tryS seed i x % q) 0 ∧ W0.heap.size ≤ A.heap.size ∧ Below w.heap.size w A) := fun c pre A B row hs hg hr => by
   obtain ⟨rfl, x, pre', h1, h2, h3, h4, h5, h6⟩ := hs
   have hb : Below W0.heap.size A B := (Below.refl _ _).grown hg h5 (fun k e => (hr k e).1)
   exact ⟨rfl, x, pre', h1, h2, h3, h4.keepN hb (by omega), Nat.le_trans h5 hg.size, h6.trans (hb.mono (by omega))⟩
  refine (wpIn_wide (n := 6)).1 ?_
  refine wpIn_rangeFunc_ownG rfl (by omega) (gf := 144) (lb := #[.pointer (some ⟨w.heap.size + 1 + 1 + 1 + 1 + 1, 0, none⟩), .pointer (some ⟨w.heap.size + 1 + 1 + 1 + 1 + 1 + 1, 0, none⟩)]) rfl trivial (enters_of Tryz.func144 (by kernel_rfl) rfl)
    (tries_stops (6 - 1) (by omega) (w.heap.size + 1 + 1 + 1 + 1 + 1) (w.heap.size + 1 + 1 + 1 + 1 + 1 + 1) hi0 hi1 HSL.o HBY.o W0 HT0.o HU0.o)
    (fun h k => Kc.trans h k) (fun W l o o' hl h a b => Kc.put W l o o' h a) (Below.refl _ _) (fun _ => rfl)
    (fun pre W => (∀ y, y ∈ pre → skipS seed i q y = true) ∧ DBx W w.heap.size q R 0 0 ∧ W0.heap.size ≤ W.heap.size ∧ Below w.heap.size w W)
    (fun c pre A => c = .ret ∧ ∃ x pre', pre = pre' ++ [x] ∧ (∀ y, y ∈ pre' → skipS seed i q y = true) ∧ skipS seed i q x = false ∧ DBx A w.heap.size q R (tryS seed i x % q) 0 ∧ W0.heap.size ≤ A.heap.size ∧ Below w.heap.size w A)
    HOW HOX
    ⟨fun y hy => by simp at hy, hD0, Nat.le_refl _, hB0⟩
    (fun x => { tmps := #[.agg (valV .u8 seed), .int .u32 i, .int .u64 q, .pointer (some ⟨w.heap.size, 0, none⟩), undef, .pointer (some ⟨w.heap.size + 1, 0, none⟩), .pointer (some ⟨w.heap.size + 1 + 1, 0, none⟩), .pointer (some ⟨w.heap.size + 1 + 1 + 1, 0, none⟩), .pointer (some ⟨w.heap.size + 1 + 1 + 1 + 1, 0, none⟩), .int .u64 (tryS seed i x), .int .u64 q, .int .u64 (18446744073709551616 - q), .int .u64 q, .int .u64 R, .agg (valV .u8 seed), .int .u32 i, .func (.func 144) #[] #[.pointer (some ⟨w.heap.size + 1 + 1 + 1 + 1 + 1, 0, none⟩), .pointer (some ⟨w.heap.size + 1 + 1 + 1 + 1 + 1 + 1, 0, none⟩)], .int .u64 (tryS seed i x), undef, undef, undef, undef, undef, undef, undef, undef, undef, undef, undef], defers := [] }) ?assign ?body ?done ?stop
  case assign =>
   intro l x W K hK
   gi_wp2
   exact hK
  case body =>
   rintro l pre x W ⟨hsk, hD, hz, hB⟩ hl
   have q0 := hD.q.c 0 _ rfl
   have u0 := hD.u.c 0 _ rfl
   have e0 := hD.e.c 0 _ rfl
   have r0 := hD.r.c 0 _ rfl
   have uf := hD.u.f 0
   have ef := hD.e.f 0
   have HD := Lh hD
   have HB := Lh hB
   have HSK := Lh hsk
   obtain ⟨t0, t1⟩ := tryS_u seed i x
   have HSX := Lh (show skipS seed i q x = (decide (0 < R) && decide (18446744073709551616 - R ≤ tryS seed i x)) by rw [skipS, HRS.o])
   obtain ⟨t, ht⟩ : ∃ t, tryS seed i x = t := ⟨_, rfl⟩
   have HTT := Lh ht
   rw [ht] at t0 t1 HSX ⊢
   clear hD hB hsk ht
   by_cases hRp : 0 < R
   case pos =>
    have dR : decide (0 < R) = true := decide_eq_true hRp
    have hn : IntKind.u64.wrap (-R) = 18446744073709551616 - R := by rw [show (-R : Int) = (18446744073709551616 - R) - 18446744073709551616 by omega]; simp [IntKind.wrap, IntKind.bits, IntKind.signed]; omega
    by_cases hx : 18446744073709551616 - R ≤ t
    case pos =>
     have dx : decide (18446744073709551616 - R ≤ t) = true := decide_eq_true hx
     have hs1 : skipS seed i q x = true := by rw [HSX.o, dR, dx]; rfl
     have HS1 := Lh hs1
     clear hs1 HSX
     gi_wp2
     exact ⟨KeepsFrom.refl _ _, Kc.refl _, fun y hy => by
      rcases List.mem_append.1 hy with hy | hy
      · exact HSK.o y hy
      · simp at hy; subst hy; exact HS1.o, HD.o, by omega, HB.o⟩
    case neg =>
     have dx : decide (18446744073709551616 - R ≤ t) = false := decide_eq_false hx
     have hs1 : skipS seed i q x = false := by rw [HSX.o, dR, dx]; rfl
     have HS1 := Lh hs1
     clear hs1 HSX
     gi_wp2
     exact ⟨(KeepsFrom.of_grownBy ((Gro.refl _ W).set ⟨w.heap.size + 1 + 1, 0, none⟩ (.inl rfl) _) (fun j e => by cases e; show w.heap.size + 1 + 1 < _; omega)).trans (KeepsFrom.of_grownBy ((Gro.refl _ _).set ⟨w.heap.size + 1 + 1 + 1, 0, none⟩ (.inl rfl) _) (fun j e => by cases e; show w.heap.size + 1 + 1 + 1 < _; omega)), rfl, x, pre, rfl, HSK.o, HS1.o,
       (by rw [HTT.o]; exact ⟨(HD.o.q.far _ _ (by simp <;> omega)).far _ _ (by simp <;> omega), (HD.o.u.set (m := [.int .u64 (t % q)]) 0 _ (by simp) rfl).far _ _ (by simp <;> omega), (HD.o.e.far _ _ (by simp <;> omega)).set (m := [.int .i64 0]) 0 _ (by simp) rfl, (HD.o.r.far _ _ (by simp <;> omega)).far _ _ (by simp <;> omega)⟩), (by simp <;> omega), (HB.o.setCell (by simp <;> omega) _).setCell (by simp <;> omega) _⟩
   case neg =>
    have dR : decide (0 < R) = false := decide_eq_false hRp
    have hs1 : skipS seed i q x = false := by rw [HSX.o, dR]; rfl
    have HS1 := Lh hs1
    clear hs1 HSX
    gi_wp2
    exact ⟨(KeepsFrom.of_grownBy ((Gro.refl _ W).set ⟨w.heap.size + 1 + 1, 0, none⟩ (.inl rfl) _) (fun j e => by cases e; show w.heap.size + 1 + 1 < _; omega)).trans (KeepsFrom.of_grownBy ((Gro.refl _ _).set ⟨w.heap.size + 1 + 1 + 1, 0, none⟩ (.inl rfl) _) (fun j e => by cases e; show w.heap.size + 1 + 1 + 1 < _; omega)), rfl, x, pre, rfl, HSK.o, HS1.o,
      (by rw [HTT.o]; exact ⟨(HD.o.q.far _ _ (by simp <;> omega)).far _ _ (by simp <;> omega), (HD.o.u.set (m := [.int .u64 (t % q)]) 0 _ (by simp) rfl).far _ _ (by simp <;> omega), (HD.o.e.far _ _ (by simp <;> omega)).set (m := [.int .i64 0]) 0 _ (by simp) rfl, (HD.o.r.far _ _ (by simp <;> omega)).far _ _ (by simp <;> omega)⟩), (by simp <;> omega), (HB.o.setCell (by simp <;> omega) _).setCell (by simp <;> omega) _⟩
  case done =>
   rintro D ys W hD rfl ⟨hsk, hDB, hz, hB⟩ hK
   have HN := Lh (drawS_none hsk)
   have u0 := hDB.u.c 0 _ rfl
   have e0 := hDB.e.c 0 _ rfl
   have uf := hDB.u.f 0
   have ef := hDB.e.f 0
   have HD := Lh hDB
   have HB := Lh hB
   have HDD := Lh hD
   have HK := Lh hK
   clear hsk hDB hB hD hK
   go_wp2_with fail
   rw [Exit.noGoto_ret]
   have hK9 : ((W.setCell ⟨w.heap.size + 1 + 1, 0, none⟩ (.int .u64 0)).setCell ⟨w.heap.size + 1 + 1 + 1, 0, none⟩ (.int .i64 6)).heap[D]? = some (.deferred (some [])) := by
    rw [Below.heap_setCell _ _ _ _ (by have := HDD.o; show D ≠ w.heap.size + 1 + 1 + 1; omega), Below.heap_setCell _ _ _ _ (by have := HDD.o; show D ≠ w.heap.size + 1 + 1; omega)]
    exact HK.o
   have hBD := belowK_b (w := W0) (Nat.le_refl _) _ D (.deferred (some [])) (.deferred none) HDD.o hK9 rfl rfl
   refine ⟨by simp, .inl ⟨_, _, rfl, run_takeDeferred hK9, ?_⟩⟩
   refine ⟨_, res_2c rfl (((((HD.o.u.set (m := [.int .u64 0]) 0 _ (by simp) rfl).far _ _ (by simp <;> omega))).keepN hBD (by omega)).c 0 _ rfl) ((((HD.o.e.far _ _ (by simp <;> omega)).set (m := [.int .i64 6]) 0 _ (by simp) rfl).keepN hBD (by omega)).c 0 _ rfl) _ rfl rfl, ?_⟩
   exact ⟨by rw [HN.o]; rfl, ((HB.o.setCell (by simp <;> omega) _).setCell (by simp <;> omega) _).trans (hBD.mono (by omega))⟩
  case stop =>
   rintro D c pre W hD ⟨k, hk, hp⟩ ⟨rfl, x, pre', h1, h2, h3, h4, h5, h6⟩ hK
   have HN := Lh (drawS_hit hk (h1.symm.trans hp) h2 h3)
   refine wpIn_wide.2 ?_
   go_wp2_with fail
   rw [Exit.noGoto_ret]
   have hBD := belowK_b (w := W0) (Nat.le_refl _) _ D (.deferred (some [])) (.deferred none) hD hK rfl rfl
   refine ⟨by simp, .inl ⟨_, _, rfl, run_takeDeferred hK, ?_⟩⟩
   refine ⟨_, res_2c rfl ((h4.u.keepN hBD (by omega)).c 0 _ rfl) ((h4.e.keepN hBD (by omega)).c 0 _ rfl) _ rfl rfl, ?_⟩
   exact ⟨by rw [HN.o]; rfl, h6.trans (hBD.mono (by omega))⟩
open Go Go.RowKit Num Sha
def sampS (seed : List Int) (q : Int) : Nat → Option (List Int)
  | 0 => some []
  | k + 1 => match sampS seed q k with
    | none => none
    | some xs => match drawS seed (k : Int) q with
      | none => none
      | some x => some (xs ++ [x])
theorem sampS_len {seed : List Int} {q : Int} : ∀ {k : Nat} {xs : List Int}, sampS seed q k = some xs → xs.length = k
  | 0, xs, h => by simp [sampS] at h; subst h; rfl
  | k + 1, xs, h => by
   simp only [sampS] at h
   split at h
   · cases h
   · next ys hy =>
     split at h
     · cases h
     · next x hx => cases h; rw [List.length_append, sampS_len hy]; rfl
theorem sampS_none {seed : List Int} {q : Int} {j k : Nat} (h : sampS seed q j = none) (hk : j ≤ k) : sampS seed q k = none := by
 induction k with
 | zero => obtain rfl : j = 0 := by omega
           exact h
 | succ k ih =>
  by_cases e : j = k + 1
  · subst e; exact h
  · simp only [sampS, ih (by omega)]
theorem drawS_bound {seed : List Int} {i q x : Int} (hq : 0 < q) (h : drawS seed i q = some x) : 0 ≤ x ∧ x < q := by
 unfold drawS at h
 cases hf : (List.range 16).find? fun k => !skipS seed i q k with
 | none => rw [hf] at h; cases h
 | some k => rw [hf] at h; cases h; exact ⟨Int.emod_nonneg _ (by omega), Int.emod_lt_of_pos _ hq⟩
theorem sampS_bound {seed : List Int} {q : Int} (hq : 0 < q) : ∀ {k : Nat} {xs : List Int}, sampS seed q k = some xs → ∀ x, x ∈ xs → 0 ≤ x ∧ x < q
  | 0, xs, h => by simp [sampS] at h; subst h; simp
  | k + 1, xs, h => by
   simp only [sampS] at h
   split at h
   · cases h
   · next ys hy =>
     split at h
     · cases h
     · next x hx =>
       cases h
       intro z hz
       rcases List.mem_append.1 hz with hz | hz
       · exact sampS_bound hq hy z hz
       · simp at hz; subst hz; exact drawS_bound hq hx
def RetSm (w : World) (o : Option (List Int)) (e : Ending) (w' : World) : Prop := Below w.heap.size w w' ∧ match o with
  | some xs => ∃ v, e = .returned (.tuple #[v, .int .i64 0]) ∧ OwnU8 w' w.heap.size v xs
  | none => e = .returned (.tuple #[.slice none 0 0, .int .i64 6])
set_option maxHeartbeats 8000000 in
theorem sample_any {seed : List Int} {q : Int} {many : Nat} (w : World) (hT : Tabs w) (hsl : seed.length = 32) (hby : ByteL seed) (hq0 : 0 < q) (hq1 : q ≤ 4294967296) (hm : many ≤ 4096) :
    Calls Tryz.prog 59 #[.agg (valV .u8 seed), .int .u32 0, .int .i64 (many : Int), .int .u64 q] w (RetSm w (sampS seed q many)) := by
  obtain ⟨i0, hi, hz0, hz1, hz2⟩ := info_parts (P := Tryz.prog) (e := 22) (z := .int .u64 0) (size := 1) (bytes := 8) (by kernel_rfl)
  have HT := Lh hT
  have HSL := Lh hsl
  have HBY := Lh hby
  have F_a := Lh (Arr.new .u8 w seed 26 w.heap.size rfl)
  have HBW := Lh (show Below w.heap.size w (w.alloc (.cells (valV .u8 seed) 26)) from (Below.refl _ _).alloc (Nat.le_refl _) _)
  have d1 : decide ((many : Int) < 0) = false := decide_eq_false (by omega)
  have d2 : decide ((4294967296 : Int) < (many : Int)) = false := decide_eq_false (by omega)
  have w1 : IntKind.u64.wrap (many : Int) = many := IntWalk.u64_in _ (by omega)
  have d3 : decide (q < 1) = false := decide_eq_false (by omega)
  have d4 : decide ((4294967296 : Int) < q) = false := decide_eq_false (by omega)
  have d5 : decide ((4096 : Int) < (many : Int)) = false := decide_eq_false (by omega)
  clear hT hsl hby
  go_enter Tryz.func59, Tryz.ntmps59
  go_wp2_with (refine wpL_loadArr rfl 26 .u8 (.tmp 4) w.heap.size seed 32 5 rfl rfl Tryz.underlying26 (by rw [HSL.o]; kernel_rfl) F_a.o ?_; simp only [sY])
  clear d1 d2 w1 d3 d4 d5 F_a
  go_loopw [8, 41] (fun c8 c41 wr => ∃ (j : Nat) (ys : List Int), j ≤ many ∧ c41 = .int .i64 j ∧ Hid (sampS seed q j = some ys) ∧ Hid (OwnU8 wr w.heap.size c8 ys) ∧ Hid (Below w.heap.size w wr)) (fun _ c41 _ => many - (intOf c41).toNat)
  case atStart => exact ⟨0, [], by omega, rfl, rfl, OwnU8.nil _ _, HBW.o⟩
  case round =>
   clear HBW
   obtain ⟨j, ys, hj, rfl, HS, HO, HBW⟩ := hrel
   by_cases hlt : j < many
   case neg =>
    obtain rfl : j = many := by omega
    have hd : decide ((j : Int) < (j : Int)) = false := decide_eq_false (by omega)
    go_wp2_with fail
    go_ret2
    exact ⟨HBW.o, by rw [HS.o]; exact ⟨_, rfl, HO.o⟩⟩
   case pos =>
    have hd : decide ((j : Int) < (many : Int)) = true := decide_eq_true (by omega)
    have w1 : IntKind.u32.wrap (j : Int) = j := IntWalk.u32_in _ (by omega)
    have w2 : IntKind.i64.wrap ((j : Int) + 1) = (j : Int) + 1 := IntWalk.i64_in _ (by omega)
    have hzw := HBW.o.size
    go_wp2_with fail
    refine (draw_any _ (HT.o.below HBW.o) (by omega) (by omega) HSL.o HBY.o hq0 (by omega)).mono ?_
    rintro e w5 ⟨rfl, hb5⟩
    replace HO := Lh (HO.o.keep hb5)
    replace HBW := Lh (HBW.o.trans (hb5.mono HBW.o.size))
    have hzw5 := HBW.o.size
    clear hb5
    obtain ⟨o, ho⟩ : ∃ o, drawS seed (j : Int) q = o := ⟨_, rfl⟩
    rw [ho]
    have HD := Lh ho
    clear ho
    cases o with
    | none =>
     have HN := Lh (show sampS seed q many = none from sampS_none (j := j + 1) (by simp only [sampS, HS.o, HD.o]) (by omega))
     unfold drawV
     go_wp2_with fail
     go_ret2
     exact ⟨HBW.o, by rw [HN.o]; rfl⟩
    | some x =>
     have HN := Lh (show sampS seed q (j + 1) = some (ys ++ [x]) by simp only [sampS, HS.o, HD.o])
     have HLY := Lh (sampS_len HS.o)
     have HXM := Lh (show ys.length + 1 ≤ maxLen by have := HLY.o; unfold maxLen; omega)
     have HXB := Lh (show (ys.length + 1) * 8 ≤ 140737488355328 by have := HLY.o; omega)
     unfold drawV
     go_wp2_with (at_builtin; (refine wpList_append_own _ rfl _ _ 34 rfl w.heap.size 22 i0 (.int .u64 0) 1 8 Tryz.underlying34 hi hz0 hz1 hz2 rfl (by decide) _ ys.length (ys.map (Value.int .u64)) rfl (HO.o.keep ((Below.refl _ _).alloc (Nat.le_refl _) _)) _ 1 1 [.int .u64 x] rfl rfl (fun j u hj => by cases j with | zero => simp at hj; subst hj; simp [go_sem] | succ j => simp at hj) (fun u hu => by simp at hu; subst hu; rfl) HXM.o HXB.o (by simp; omega) ?_); intro v4 w4 hown hgr hnil; have HO4 := Lh (show OwnU8 w4 w.heap.size v4 (ys ++ [x]) by unfold OwnU8; rw [List.length_append, List.map_append]; exact hown); have HB4 := Lh (Below.rowT (n := w.heap.size) hgr (fun k hk => (World.ownsRow.lt HO.o k hk).1) (by simp; omega)); clear hown hgr hnil)
     go_roundw
     case rel => exact ⟨j + 1, ys ++ [x], by omega, by go_num, HN.o, HO4.o, (HBW.o.alloc HBW.o.size _).trans HB4.o⟩
     case measure => simp [intOf]; omega
set_option maxHeartbeats 8000000 in
theorem nonces_any {P Q G : Int} {seed : List Int} {many : Nat} (w : World) (hT : Tabs w) (hsl : seed.length = 32) (hby : ByteL seed) (hq0 : 0 < Q) (hq1 : Q ≤ 4294967296) (hm : many ≤ 4096) :
    Calls Tryz.prog 26 #[.agg #[.int .u64 P, .int .u64 Q, .int .u64 G], .agg (valV .u8 seed), .int .i64 (many : Int)] w (RetSm w (sampS seed Q many)) := by
  have HT := Lh hT
  have HSL := Lh hsl
  have HBY := Lh hby
  have F_g := Lh (show Cl ((w.alloc (.cells #[.int .u64 P, .int .u64 Q, .int .u64 G] 24)).alloc (.cells (valV .u8 seed) 26)) w.heap.size [.int .u64 P, .int .u64 Q, .int .u64 G] from (Cl.at w [.int .u64 P, .int .u64 Q, .int .u64 G] _ w.heap.size rfl).alloc _)
  have F_a := Lh (Arr.new .u8 (w.alloc (.cells #[.int .u64 P, .int .u64 Q, .int .u64 G] 24)) seed 26 (w.heap.size + 1) (by simp))
  have HBW := Lh (show Below w.heap.size w ((w.alloc (.cells #[.int .u64 P, .int .u64 Q, .int .u64 G] 24)).alloc (.cells (valV .u8 seed) 26)) from ((Below.refl _ _).alloc (Nat.le_refl _) _).alloc (by simp) _)
  have c1 := F_g.o.c 1 _ rfl
  clear hT hsl hby
  go_enter Tryz.func26, Tryz.ntmps26
  go_wp2_with (refine wpL_loadArr rfl 26 .u8 (.tmp 4) (w.heap.size + 1) seed 32 5 rfl rfl Tryz.underlying26 (by rw [HSL.o]; kernel_rfl) F_a.o ?_; simp only [sY])
  refine (sample_any _ (HT.o.below HBW.o) HSL.o HBY.o hq0 hq1 hm).mono ?_
  rintro e w5 ⟨hb5, hr⟩
  have HB5 := Lh (HBW.o.trans (hb5.mono HBW.o.size))
  obtain ⟨o, ho⟩ : ∃ o, sampS seed Q many = o := ⟨_, rfl⟩
  rw [ho] at hr
  have HO := Lh ho
  clear ho
  cases o with
  | none =>
   subst hr
   clear hb5 c1
   go_wp2_with fail
   go_ret2
   exact ⟨HB5.o, by rw [HO.o]; rfl⟩
  | some xs =>
   obtain ⟨v, rfl, hv⟩ := hr
   have HV := Lh (show OwnU8 w5 w.heap.size v xs from owns_mono hv HBW.o.size)
   clear hb5 c1 hv
   go_wp2_with fail
   go_ret2
   exact ⟨HB5.o, by rw [HO.o]; exact ⟨_, rfl, HV.o⟩⟩
open Go Go.RowKit Num Sha
def chkB (P Q G y n : Int) : Int := if ¬ Has P Q G then 300 else if P ≤ y ∨ n < 1 ∨ 10 < n then 2 else 0
theorem chkB_ok {P Q G y n : Int} (h : chkB P Q G y n = 0) : Has P Q G ∧ y < P ∧ 1 ≤ n ∧ n ≤ 10 := by
 unfold chkB at h
 split at h
 · cases h
 · next hh =>
   split at h
   · cases h
   · exact ⟨Classical.not_not.1 hh, by omega, by omega, by omega⟩
def markedFrom (n last : Int) : List Int → Bool
  | [] => true
  | i :: l => if i ≤ last ∨ n ≤ i then false else markedFrom n i l
def markedS (n : Int) (l : List Int) : Bool := markedFrom n (-1) l
def msgS (l : List Int) (i : Int) : Int := if i ∈ l then 1 else 0
set_option maxHeartbeats 8000000 in
theorem bcheck_any {P Q G y n : Int} (w : World) (hP : 0 ≤ P) (hQ : 0 ≤ Q) (hG : 0 ≤ G) (hy : 0 ≤ y) :
    Calls Tryz.prog 24 #[.agg #[.int .u64 P, .int .u64 Q, .int .u64 G], .int .u64 y, .int .i64 n] w fun e w' => e = .returned (.int .i64 (chkB P Q G y n)) ∧ Below w.heap.size w w' := by
  have F_g := Lh (Cl.at w [.int .u64 P, .int .u64 Q, .int .u64 G] 24 w.heap.size rfl)
  have HBW := Lh (show Below w.heap.size w (w.alloc (.cells #[.int .u64 P, .int .u64 Q, .int .u64 G] 24)) from (Below.refl _ _).alloc (Nat.le_refl _) _)
  have c0 := F_g.o.c 0 _ rfl
  have c1 := F_g.o.c 1 _ rfl
  have c2 := F_g.o.c 2 _ rfl
  go_enter Tryz.func24, Tryz.ntmps24
  go_wp2_with fail
  clear c0 c1 c2
  refine (form_any P Q G _ hP hQ hG).mono ?_
  rintro e w1 ⟨rfl, hb1⟩
  replace F_g := Lh (F_g.o.keep hb1)
  replace HBW := Lh (HBW.o.trans (hb1.mono HBW.o.size))
  clear hb1
  have c0 := F_g.o.c 0 _ rfl
  by_cases hh : Has P Q G
  case neg =>
   have hf : formS P Q G = 300 := by unfold formS; rw [if_neg hh]
   rw [hf]
   go_wp2_with fail
   go_ret
   exact ⟨by unfold chkB; rw [if_pos hh]; rfl, HBW.o⟩
  case pos =>
   have hf : formS P Q G = 0 := by unfold formS; rw [if_pos hh]
   rw [hf]
   have HC := Lh (show chkB P Q G y n = if P ≤ y ∨ n < 1 ∨ 10 < n then 2 else 0 by unfold chkB; rw [if_neg (fun h => h hh)])
   clear hf
   by_cases h1 : P ≤ y
   case pos =>
    have d1 : decide (P ≤ y) = true := decide_eq_true h1
    go_wp2_with fail
    go_ret
    exact ⟨by rw [HC.o, if_pos (.inl h1)]; rfl, HBW.o⟩
   case neg =>
   have d1 : decide (P ≤ y) = false := decide_eq_false h1
   by_cases h2 : n < 1
   case pos =>
    have d2 : decide (n < 1) = true := decide_eq_true h2
    go_wp2_with fail
    go_ret
    exact ⟨by rw [HC.o, if_pos (.inr (.inl h2))]; rfl, HBW.o⟩
   case neg =>
   have d2 : decide (n < 1) = false := decide_eq_false h2
   by_cases h3 : 10 < n
   case pos =>
    have d3 : decide (10 < n) = true := decide_eq_true h3
    go_wp2_with fail
    go_ret
    exact ⟨by rw [HC.o, if_pos (.inr (.inr h3))]; rfl, HBW.o⟩
   case neg =>
   have d3 : decide (10 < n) = false := decide_eq_false h3
   go_wp2_with fail
   go_ret
   exact ⟨by rw [HC.o, if_neg (by omega)]; rfl, HBW.o⟩
set_option maxHeartbeats 8000000 in
theorem marked_any {n : Int} {a : Option Addr} {m c : Nat} {l : List Int} (w : World) (hS : ShI .i64 w a m l) (hm : m ≤ 9223372036854775807) :
    Calls Tryz.prog 25 #[.int .i64 n, .slice a m c] w fun e w' => e = .returned (.bool (markedS n l)) ∧ w' = w := by
  have HL := Lh hS.len
  have HS := Lh hS
  have HR := Lh (show markedS n l = markedFrom n (-1) (l.drop 0) from rfl)
  clear hS
  go_enter Tryz.func25, Tryz.ntmps25
  go_wp2_with fail
  go_loop [5, 7, 10] (fun c5 _ c10 => ∃ (k : Nat) (last : Int), k ≤ m ∧ c10 = .int .i64 k ∧ c5 = .int .i64 last ∧ Hid (markedS n l = markedFrom n last (l.drop k))) (fun _ _ c10 => m - (intOf c10).toNat)
  case atStart => exact ⟨0, -1, by omega, rfl, rfl, HR.o⟩
  case round =>
   clear HR
   obtain ⟨k, last, hk, rfl, rfl, HR⟩ := hrel
   by_cases hlt : k < m
   case neg =>
    obtain rfl : k = m := by omega
    have hd : decide ((k : Int) < (k : Int)) = false := decide_eq_false (by omega)
    go_wp2_with fail
    go_ret
    exact ⟨by rw [HR.o, List.drop_eq_nil_of_le (by rw [← HL.o]; exact Nat.le_refl _)]; rfl, rfl⟩
   case pos =>
    have hd : decide ((k : Int) < (m : Int)) = true := decide_eq_true (by omega)
    have i0 : (0 : Int) ≤ (k : Int) := by omega
    have i1 : (k : Int) < (m : Int) := by omega
    have w1 : IntKind.i64.wrap ((k : Int) + 1) = (k : Int) + 1 := IntWalk.i64_in _ (by omega)
    obtain ⟨s, o, rfl, hc⟩ : ∃ s o, a = some ⟨s, o, none⟩ ∧ w.cell? ⟨s, o + k, none⟩ = some (.int .i64 (l.getD k 0)) := by
     rcases HS.o with ⟨h1, _⟩ | ⟨s, o, h0, h1, h2, h3⟩
     · omega
     · exact ⟨s, o, h0, h3 k (by omega)⟩
    have HD := Lh (show l.drop k = l.getD k 0 :: l.drop (k + 1) by
     have hl : k < l.length := by rw [← HL.o]; exact hlt
     rw [List.drop_eq_getElem_cons hl, List.getD_eq_getElem?_getD, List.getElem?_eq_getElem hl]; rfl)
    generalize l.getD k 0 = x at hc HD
    by_cases h1 : x ≤ last
    case pos =>
     have d1 : decide (x ≤ last) = true := decide_eq_true h1
     go_wp2_with fail
     go_ret
     exact ⟨by rw [HR.o, HD.o, markedFrom, if_pos (.inl h1)]; rfl, rfl⟩
    case neg =>
    have d1 : decide (x ≤ last) = false := decide_eq_false h1
    by_cases h2 : n ≤ x
    case pos =>
     have d2 : decide (n ≤ x) = true := decide_eq_true h2
     go_wp2_with fail
     go_ret
     exact ⟨by rw [HR.o, HD.o, markedFrom, if_pos (.inr h2)]; rfl, rfl⟩
    case neg =>
    have d2 : decide (n ≤ x) = false := decide_eq_false h2
    go_wp2_with fail
    go_round
    case rel => exact ⟨k + 1, x, by omega, by go_num, rfl, Lh (by rw [HR.o, HD.o, markedFrom, if_neg (by omega)])⟩
    case measure => simp [intOf]; omega
set_option maxHeartbeats 8000000 in
theorem index_any {i : Int} {a : Option Addr} {m c : Nat} {l : List Int} (w : World) (hS : ShI .i64 w a m l) (hm : m ≤ 100000) :
    Calls Tryz.prog 98 #[.slice a m c, .int .i64 i] w fun e w' => (∃ r : Int, e = .returned (.int .i64 r) ∧ (0 ≤ r ↔ i ∈ l)) ∧ w' = w := by
  have HL := Lh hS.len
  have HS := Lh hS
  clear hS
  go_enter Tryz.func98, Tryz.ntmps98
  go_wp2_with fail
  go_loop [5, 8] (fun _ c8 => ∃ (k : Nat), k ≤ m ∧ c8 = .int .i64 k ∧ Hid (i ∉ l.take k)) (fun _ c8 => m - (intOf c8).toNat)
  case atStart => exact ⟨0, by omega, rfl, Lh (by rw [List.take_zero]; exact List.not_mem_nil)⟩
  case round =>
   obtain ⟨k, hk, rfl, HR⟩ := hrel
   by_cases hlt : k < m
   case neg =>
    obtain rfl : k = m := by omega
    have hd : decide ((k : Int) < (k : Int)) = false := decide_eq_false (by omega)
    go_wp2_with fail
    go_ret
    have h := HR.o
    rw [List.take_of_length_le (by rw [← HL.o]; exact Nat.le_refl _)] at h
    exact ⟨⟨_, rfl, fun h' => absurd h' (by simp), fun h' => absurd h' h⟩, rfl⟩
   case pos =>
    have hd : decide ((k : Int) < (m : Int)) = true := decide_eq_true (by omega)
    have i0 : (0 : Int) ≤ (k : Int) := by omega
    have i1 : (k : Int) < (m : Int) := by omega
    have w1 : IntKind.i64.wrap ((k : Int) + 1) = (k : Int) + 1 := IntWalk.i64_in _ (by omega)
    obtain ⟨s, o, rfl, hc⟩ : ∃ s o, a = some ⟨s, o, none⟩ ∧ w.cell? ⟨s, o + k, none⟩ = some (.int .i64 (l.getD k 0)) := by
     rcases HS.o with ⟨h1, _⟩ | ⟨s, o, h0, h1, h2, h3⟩
     · omega
     · exact ⟨s, o, h0, h3 k (by omega)⟩
    have HD := Lh (show l.take (k + 1) = l.take k ++ [l.getD k 0] ∧ l.getD k 0 ∈ l by
     have hl : k < l.length := by rw [← HL.o]; exact hlt
     rw [List.take_succ_eq_append_getElem hl, List.getD_eq_getElem?_getD, List.getElem?_eq_getElem hl]; exact ⟨rfl, List.getElem_mem hl⟩)
    generalize l.getD k 0 = x at hc HD
    by_cases h1 : i = x
    case pos =>
     subst h1
     go_wp2_with fail
     go_ret
     exact ⟨⟨_, rfl, fun _ => HD.o.2, fun _ => by simp⟩, rfl⟩
    case neg =>
    go_wp2_with fail
    go_round
    case rel => exact ⟨k + 1, by omega, by go_num, Lh (by rw [HD.o.1]; intro h; rcases List.mem_append.1 h with h | h; exact HR.o h; simp at h; exact h1 h)⟩
    case measure => simp [intOf]; omega
theorem contains_any {i : Int} {a : Option Addr} {m c : Nat} {l : List Int} (w : World) (hS : ShI .i64 w a m l) (hm : m ≤ 100000) :
    Calls Tryz.prog 60 #[.slice a m c, .int .i64 i] w fun e w' => e = .returned (.bool (decide (i ∈ l))) ∧ w' = w := by
  have HS := Lh hS
  clear hS
  go_enter Tryz.func60, Tryz.ntmps60
  go_wp2_with fail
  refine (index_any _ HS.o hm).mono ?_
  rintro e w1 ⟨⟨r, rfl, hr⟩, rfl⟩
  have HR := Lh hr
  clear hr
  go_wp2_with fail
  go_ret
  exact ⟨by rw [← show decide (0 ≤ r) = decide (i ∈ l) from decide_eq_decide.2 HR.o]; rfl, rfl⟩
theorem message_any {i : Int} {a : Option Addr} {m c : Nat} {l : List Int} (w : World) (hS : ShI .i64 w a m l) (hm : m ≤ 100000) :
    Calls Tryz.prog 28 #[.slice a m c, .int .i64 i] w fun e w' => e = .returned (.int .i64 (msgS l i)) ∧ w' = w := by
  have HS := Lh hS
  clear hS
  go_enter Tryz.func28, Tryz.ntmps28
  go_wp2_with fail
  refine (contains_any _ HS.o hm).mono ?_
  rintro e w1 ⟨rfl, rfl⟩
  by_cases h : i ∈ l
  · rw [decide_eq_true h]
    go_wp2_with fail
    go_ret
    exact ⟨by unfold msgS; rw [if_pos h]; rfl, rfl⟩
  · rw [decide_eq_false h]
    go_wp2_with fail
    go_ret
    exact ⟨by unfold msgS; rw [if_neg h]; rfl, rfl⟩
end Go.Proofs.YtlbldpkgnonbpaaGreatDoor
