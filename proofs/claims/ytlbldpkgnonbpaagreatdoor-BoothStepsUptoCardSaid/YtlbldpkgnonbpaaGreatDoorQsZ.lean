/- Rows of copies in a set of blocks; appends to them; a booth out of three of them. -/
import Derived.Test.YtlbldpkgnonbpaaGreatDoorQsY
set_option linter.unusedSimpArgs false
set_option linter.unusedVariables false
set_option maxRecDepth 100000
namespace Go.Proofs.YtlbldpkgnonbpaaGreatDoor
open Go Go.RowKit Num Sha
def inB (a : Option Addr) (n : Nat) (P : Nat → Prop) : Prop := 0 < n → ∀ s o, a = some ⟨s, o, none⟩ → P s
theorem highB.inB {a : Option Addr} {n N : Nat} (h : highB a n N) (P : Nat → Prop) (hP : ∀ b, N ≤ b → P b) : inB a n P := fun hn s o ha => hP s (h hn s o ha)
def RpV (P : Nat → Prop) (v : Value) (k : Nat) (L : List Vt) (wr : World) : Prop := ∃ Us : List Vt, wr.ownsRow 0 33 11 v k (Us.flatMap Vt.vs) ∧ (∀ g, v.ownBlock = some g → P g) ∧ (∀ U, U ∈ Us → VtOff wr U v.ownBlock ∧ inB U.a U.n P ∧ inB U.b U.m P) ∧ Us.map Vt.key = L.map Vt.key
theorem RdV.rp {lo N : Nat} {v : Value} {k : Nat} {L : List Vt} {w : World} (h : RdV lo N v k L w) (P : Nat → Prop) (hP : ∀ b, lo ≤ b → b < N → P b) : RpV P v k L w := by
 obtain ⟨Us, h1, h2, h3, h4⟩ := h
 refine ⟨Us, owns_mono h1 (Nat.zero_le _), fun g hg => hP g (h1.lt g hg).1 (h2 g hg), fun U hU => ?_, h4⟩
 obtain ⟨g1, ⟨g2, g3⟩, g4, g5⟩ := h3 U hU
 exact ⟨g1, fun hn s o ha => hP s (g2 hn s o ha) (g4 hn s o ha), fun hn s o ha => hP s (g3 hn s o ha) (g5 hn s o ha)⟩
theorem RpV.keep {P : Nat → Prop} {v : Value} {k : Nat} {L : List Vt} {w w' : World} (h : RpV P v k L w) (hb : Below w.heap.size w w') : RpV P v k L w' := by
 obtain ⟨Us, h1, h2, h3, h4⟩ := h
 exact ⟨Us, owns_below2 h1 hb, h2, fun U hU => ⟨(h3 U hU).1.keep hb, (h3 U hU).2⟩, h4⟩
theorem RpV.drew {P : Nat → Prop} {v : Value} {k : Nat} {L : List Vt} {w : World} (h : RpV P v k L w) : RpV P v k L w.drew := h.keep (Below.refl _ _).drew
theorem RpV.alloc {P : Nat → Prop} {v : Value} {k : Nat} {L : List Vt} {w : World} (h : RpV P v k L w) (o : Obj) : RpV P v k L (w.alloc o) := h.keep ((Below.refl _ _).alloc (Nat.le_refl _) o)
theorem RpV.grown {P : Nat → Prop} {v : Value} {k : Nat} {L : List Vt} {w w' : World} {ob : Option Nat} (h : RpV P v k L w) (hg : w.grownBy w' ob) (ho : ∀ g, ob = some g → ¬ P g) : RpV P v k L w' := by
 obtain ⟨Us, h1, h2, h3, h4⟩ := h
 have hne : v.ownBlock = none ∨ v.ownBlock ≠ ob := by
  cases hv : v.ownBlock with
  | none => exact .inl rfl
  | some g => exact .inr fun e => ho g e.symm (h2 g hv)
 have off : ∀ (a : Option Addr) (n : Nat), inB a n P → offB a n ob := fun a n hi hn s o ha e => ho s e (hi hn s o ha)
 refine ⟨Us, h1.kept hg hne, h2, fun U hU => ?_, h4⟩
 obtain ⟨g1, g2, g3⟩ := h3 U hU
 exact ⟨⟨(VtOff.grown (ob' := ob) ⟨g1.1, off _ _ g2, off _ _ g3⟩ hg (.inl rfl)).1, g1.2⟩, g2, g3⟩
theorem RpV.set {P : Nat → Prop} {v : Value} {k : Nat} {L : List Vt} {w : World} (h : RpV P v k L w) (p : Addr) (u : Value) (hp : ¬ P p.block) : RpV P v k L (w.setCell p u) :=
 h.grown (ob := some p.block) ((Gro.refl p.block w).set p (.inl rfl) u).grown (fun g hg => by cases hg; exact hp)
theorem wp_pushV {w : World} {o : Oper} {a : Act} {K : Act → World → Prop} {Q : Exit → Act → World → Prop} (s x : Operand) (ho : o.op = .call { callee := .builtin .append, args := #[s, x], argTypes := #[52, 52] })
 (P : Nat → Prop) (n b : Nat) (v : Value) (L : List Vt) (U V : Vt) (hs : a.eval s = v) (hx : a.eval x = .slice (some ⟨b, 0, none⟩) 1 1) (hR : RpV P v n L w) (hc : ∀ j u, U.vs[j]? = some u → w.cell? ((⟨b, 0, none⟩ : Addr).add j) = some u) (hn : n ≤ 100000) (hP : P w.heap.size)
 (hU : VtIn w U) (hoff : offB U.a U.n v.ownBlock ∧ offB U.b U.m v.ownBlock) (hi : inB U.a U.n P ∧ inB U.b U.m P) (hk : U.key = V.key)
 (h : ∀ a' c' w', RpV P (.slice a' (n + 1) c') (n + 1) (L ++ [V]) w' → w.grownBy w' v.ownBlock → K (a.put o.dst (.slice a' (n + 1) c')) w') : o.wp Tryz.prog a w K Q := by
 obtain ⟨Us, h1, h2, h3, h4⟩ := hR
 refine wp_push_v2 s x ho 0 n b v (Us.flatMap Vt.vs) U hs hx h1 hc hn (Nat.zero_le _) fun v' w' g1 g2 g3 => ?_
 obtain ⟨a', c', rfl⟩ := own_slice g1
 refine h a' c' w' ⟨Us ++ [U], by rw [List.flatMap_append, List.flatMap_singleton]; exact g1, fun g hg => ?_, fun X hX => ?_, by rw [List.map_append, List.map_append, h4, List.map_singleton, List.map_singleton, hk]⟩ g2
 · rcases g3 with g3 | g3
   · exact h2 g (by rw [← g3]; exact hg)
   · rw [g3] at hg; cases hg; exact hP
 · rcases List.mem_append.1 hX with hX | hX
   · exact ⟨(h3 X hX).1.grown g2 g3, (h3 X hX).2⟩
   · rw [List.mem_singleton] at hX
     subst hX
     exact ⟨VtOff.grown ⟨hU, hoff⟩ g2 g3, hi⟩
theorem RpV.sh {P : Nat → Prop} {v : Value} {k : Nat} {L : List Vt} {w : World} (h : RpV P v k L w) : ∃ (a : Option Addr) (c : Nat) (Us : List Vt), v = .slice a k c ∧ ShV w a k Us ∧ (a = none → c = 0) ∧ Us.map Vt.key = L.map Vt.key ∧ k ≤ c ∧ ∀ r, ¬ P r → offB a k (some r) ∧ ∀ U, U ∈ Us → offB U.a U.n (some r) ∧ offB U.b U.m (some r) := by
 obtain ⟨Us, h1, h2, h3, h4⟩ := h
 obtain ⟨a, c, e, hs, hz, hle⟩ := ShV.of_owned h1 (fun U hU => (h3 U hU).1.1)
 subst e
 refine ⟨a, c, Us, rfl, hs, hz, h4, hle, fun r hr => ⟨fun hn s o ha e => ?_, fun U hU => ⟨fun hn s o ha e => ?_, fun hn s o ha e => ?_⟩⟩⟩
 · subst ha
   rcases h1.2 with ⟨h5, -⟩ | ⟨g, cap, cur, h5, -⟩
   · injection h5 with h6 h7 h8; omega
   · injection h5 with h6 h7 h8
     cases h6
     cases e
     exact hr (h2 _ rfl)
 · cases e; exact hr ((h3 U hU).2.1 hn _ _ ha)
 · cases e; exact hr ((h3 U hU).2.2 hn _ _ ha)
def RpR (P : Nat → Prop) (v : Value) (k : Nat) (L : List Rv) (wr : World) : Prop := ∃ Us : List Rv, wr.ownsRow 0 36 2 v k (Us.flatMap Rv.vs) ∧ (∀ g, v.ownBlock = some g → P g) ∧ (∀ U, U ∈ Us → RvOff wr U v.ownBlock ∧ inB U.a U.n P ∧ inB U.b U.m P) ∧ Us.map Rv.key = L.map Rv.key
theorem RdR.rp {lo N : Nat} {v : Value} {k : Nat} {L : List Rv} {w : World} (h : RdR lo N v k L w) (P : Nat → Prop) (hP : ∀ b, lo ≤ b → b < N → P b) : RpR P v k L w := by
 obtain ⟨Us, h1, h2, h3, h4⟩ := h
 refine ⟨Us, owns_mono h1 (Nat.zero_le _), fun g hg => hP g (h1.lt g hg).1 (h2 g hg), fun U hU => ?_, h4⟩
 obtain ⟨g1, ⟨g2, g3⟩, g4, g5⟩ := h3 U hU
 exact ⟨g1, fun hn s o ha => hP s (g2 hn s o ha) (g4 hn s o ha), fun hn s o ha => hP s (g3 hn s o ha) (g5 hn s o ha)⟩
theorem RpR.keep {P : Nat → Prop} {v : Value} {k : Nat} {L : List Rv} {w w' : World} (h : RpR P v k L w) (hb : Below w.heap.size w w') : RpR P v k L w' := by
 obtain ⟨Us, h1, h2, h3, h4⟩ := h
 exact ⟨Us, owns_below2 h1 hb, h2, fun U hU => ⟨(h3 U hU).1.keep hb, (h3 U hU).2⟩, h4⟩
theorem RpR.drew {P : Nat → Prop} {v : Value} {k : Nat} {L : List Rv} {w : World} (h : RpR P v k L w) : RpR P v k L w.drew := h.keep (Below.refl _ _).drew
theorem RpR.alloc {P : Nat → Prop} {v : Value} {k : Nat} {L : List Rv} {w : World} (h : RpR P v k L w) (o : Obj) : RpR P v k L (w.alloc o) := h.keep ((Below.refl _ _).alloc (Nat.le_refl _) o)
theorem RpR.grown {P : Nat → Prop} {v : Value} {k : Nat} {L : List Rv} {w w' : World} {ob : Option Nat} (h : RpR P v k L w) (hg : w.grownBy w' ob) (ho : ∀ g, ob = some g → ¬ P g) : RpR P v k L w' := by
 obtain ⟨Us, h1, h2, h3, h4⟩ := h
 have hne : v.ownBlock = none ∨ v.ownBlock ≠ ob := by
  cases hv : v.ownBlock with
  | none => exact .inl rfl
  | some g => exact .inr fun e => ho g e.symm (h2 g hv)
 have off : ∀ (a : Option Addr) (n : Nat), inB a n P → offB a n ob := fun a n hi hn s o ha e => ho s e (hi hn s o ha)
 refine ⟨Us, h1.kept hg hne, h2, fun U hU => ?_, h4⟩
 obtain ⟨g1, g2, g3⟩ := h3 U hU
 exact ⟨⟨(RvOff.grown (ob' := ob) ⟨g1.1, off _ _ g2, off _ _ g3⟩ hg (.inl rfl)).1, g1.2⟩, g2, g3⟩
theorem RpR.set {P : Nat → Prop} {v : Value} {k : Nat} {L : List Rv} {w : World} (h : RpR P v k L w) (p : Addr) (u : Value) (hp : ¬ P p.block) : RpR P v k L (w.setCell p u) :=
 h.grown (ob := some p.block) ((Gro.refl p.block w).set p (.inl rfl) u).grown (fun g hg => by cases hg; exact hp)
theorem wp_pushR {w : World} {o : Oper} {a : Act} {K : Act → World → Prop} {Q : Exit → Act → World → Prop} (s x : Operand) (ho : o.op = .call { callee := .builtin .append, args := #[s, x], argTypes := #[53, 53] })
 (P : Nat → Prop) (n b : Nat) (v : Value) (L : List Rv) (U V : Rv) (hs : a.eval s = v) (hx : a.eval x = .slice (some ⟨b, 0, none⟩) 1 1) (hR : RpR P v n L w) (hc : ∀ j u, U.vs[j]? = some u → w.cell? ((⟨b, 0, none⟩ : Addr).add j) = some u) (hn : n ≤ 100000) (hP : P w.heap.size)
 (hU : RvIn w U) (hoff : offB U.a U.n v.ownBlock ∧ offB U.b U.m v.ownBlock) (hi : inB U.a U.n P ∧ inB U.b U.m P) (hk : U.key = V.key)
 (h : ∀ a' c' w', RpR P (.slice a' (n + 1) c') (n + 1) (L ++ [V]) w' → w.grownBy w' v.ownBlock → K (a.put o.dst (.slice a' (n + 1) c')) w') : o.wp Tryz.prog a w K Q := by
 obtain ⟨Us, h1, h2, h3, h4⟩ := hR
 refine wp_push_r2 s x ho 0 n b v (Us.flatMap Rv.vs) U hs hx h1 hc hn (Nat.zero_le _) fun v' w' g1 g2 g3 => ?_
 obtain ⟨a', c', rfl⟩ := own_slice g1
 refine h a' c' w' ⟨Us ++ [U], by rw [List.flatMap_append, List.flatMap_singleton]; exact g1, fun g hg => ?_, fun X hX => ?_, by rw [List.map_append, List.map_append, h4, List.map_singleton, List.map_singleton, hk]⟩ g2
 · rcases g3 with g3 | g3
   · exact h2 g (by rw [← g3]; exact hg)
   · rw [g3] at hg; cases hg; exact hP
 · rcases List.mem_append.1 hX with hX | hX
   · exact ⟨(h3 X hX).1.grown g2 g3, (h3 X hX).2⟩
   · rw [List.mem_singleton] at hX
     subst hX
     exact ⟨RvOff.grown ⟨hU, hoff⟩ g2 g3, hi⟩
theorem RpR.sh {P : Nat → Prop} {v : Value} {k : Nat} {L : List Rv} {w : World} (h : RpR P v k L w) : ∃ (a : Option Addr) (c : Nat) (Us : List Rv), v = .slice a k c ∧ ShR w a k Us ∧ (a = none → c = 0) ∧ Us.map Rv.key = L.map Rv.key ∧ k ≤ c ∧ ∀ r, ¬ P r → offB a k (some r) ∧ ∀ U, U ∈ Us → offB U.a U.n (some r) ∧ offB U.b U.m (some r) := by
 obtain ⟨Us, h1, h2, h3, h4⟩ := h
 obtain ⟨a, c, e, hs, hz, hle⟩ := ShR.of_owned h1 (fun U hU => (h3 U hU).1.1)
 subst e
 refine ⟨a, c, Us, rfl, hs, hz, h4, hle, fun r hr => ⟨fun hn s o ha e => ?_, fun U hU => ⟨fun hn s o ha e => ?_, fun hn s o ha e => ?_⟩⟩⟩
 · subst ha
   rcases h1.2 with ⟨h5, -⟩ | ⟨g, cap, cur, h5, -⟩
   · injection h5 with h6 h7 h8; omega
   · injection h5 with h6 h7 h8
     cases h6
     cases e
     exact hr (h2 _ rfl)
 · cases e; exact hr ((h3 U hU).2.1 hn _ _ ha)
 · cases e; exact hr ((h3 U hU).2.2 hn _ _ ha)
def offBo (r : Nat) (B : Bo) : Prop := (offB B.a B.n (some r) ∧ offB B.b B.m (some r) ∧ offB B.e B.k (some r)) ∧ (∀ V, V ∈ B.l ++ B.l' → offB V.a V.n (some r) ∧ offB V.b V.m (some r)) ∧ ∀ R, R ∈ B.rs → offB R.a R.n (some r) ∧ offB R.b R.m (some r)
structure SameB (B' : Bo) (L1 L2 : List Vt) (L3 : List Rv) : Prop where
 k1 : B'.l.map Vt.key = L1.map Vt.key
 k2 : B'.l'.map Vt.key = L2.map Vt.key
 k3 : B'.rs.map Rv.key = L3.map Rv.key
theorem Bo.of_rows {w : World} {P1 P2 P3 : Nat → Prop} {v1 v2 v3 : Value} {n1 n2 n3 : Nat} {L1 L2 : List Vt} {L3 : List Rv} (h1 : RpV P1 v1 n1 L1 w) (h2 : RpV P2 v2 n2 L2 w) (h3 : RpR P3 v3 n3 L3 w) :
 ∃ B' : Bo, Value.agg #[v1, v2, v3] = B'.v ∧ BoIn w B' ∧ B'.n = n1 ∧ B'.m = n2 ∧ B'.k = n3 ∧ SameB B' L1 L2 L3 ∧ (B'.n ≤ B'.c ∧ B'.m ≤ B'.d ∧ B'.k ≤ B'.f) ∧ ∀ r, ¬ P1 r → ¬ P2 r → ¬ P3 r → offBo r B' := by
 obtain ⟨a1, c1, U1, rfl, s1, z1, k1, l1, o1⟩ := h1.sh
 obtain ⟨a2, c2, U2, rfl, s2, z2, k2, l2, o2⟩ := h2.sh
 obtain ⟨a3, c3, U3, rfl, s3, z3, k3, l3, o3⟩ := h3.sh
 exact ⟨⟨a1, n1, c1, U1, a2, n2, c2, U2, a3, n3, c3, U3⟩, rfl, ⟨s1, z1, s2, z2, s3, z3⟩, rfl, rfl, rfl, ⟨k1, k2, k3⟩, ⟨l1, l2, l3⟩, fun r g1 g2 g3 => ⟨⟨(o1 r g1).1, (o2 r g2).1, (o3 r g3).1⟩, fun V hV => (List.mem_append.1 hV).elim ((o1 r g1).2 V) ((o2 r g2).2 V), (o3 r g3).2⟩⟩
open Go Go.RowKit Num Sha
theorem AdmS.count {P Q G y n : Int} {one : Bool} {B : Bo} {V : Vt} {k : Int} (h : AdmS P Q G y n one B V k 0) : chkB P Q G y n = 0 ∧ boothP P Q G y n.toNat one B ∧ goodV P Q G y n.toNat one V ∧ V.cd ∉ cds (B.l ++ B.l') ∧ k = ((B.n + B.m : Nat) : Int) := by
 rcases h with ⟨h1, -, h2⟩ | ⟨h1, ⟨-, -, h2⟩ | ⟨h2, ⟨-, -, h3⟩ | ⟨h3, ⟨-, -, h4⟩ | ⟨h4, h5, -⟩⟩⟩⟩
 · exact absurd h2.symm h1
 · cases h2
 · cases h3
 · cases h4
 · exact ⟨h1, h2, h3, h4, h5⟩
def BackB (lo : Nat) (w' : World) (L1 L2 : List Vt) (L3 : List Rv) (n1 n2 n3 : Nat) (e : Ending) : Prop := ∃ B' : Bo, e = .returned (.tuple #[B'.v, .int .i64 0]) ∧ BoIn w' B' ∧ B'.n = n1 ∧ B'.m = n2 ∧ B'.k = n3 ∧ SameB B' L1 L2 L3 ∧ (B'.n ≤ B'.c ∧ B'.m ≤ B'.d ∧ B'.k ≤ B'.f) ∧ ∀ r, r < lo → offBo r B'
theorem BackB.of {lo : Nat} {w : World} {P1 P2 P3 : Nat → Prop} (hlo : ∀ r, r < lo → ¬ P1 r ∧ ¬ P2 r ∧ ¬ P3 r) {a1 a2 a3 : Option Addr} {c1 c2 c3 : Nat} {n1 n2 n3 : Nat} {L1 L2 : List Vt} {L3 : List Rv} (h1 : RpV P1 (.slice a1 n1 c1) n1 L1 w) (h2 : RpV P2 (.slice a2 n2 c2) n2 L2 w) (h3 : RpR P3 (.slice a3 n3 c3) n3 L3 w) :
 BackB lo w L1 L2 L3 n1 n2 n3 (.returned (.tuple #[.agg #[.slice a1 n1 c1, .slice a2 n2 c2, .slice a3 n3 c3], .int .i64 0])) := by
 obtain ⟨B', e, g1, g2, g3, g4, g5, g6, g7⟩ := Bo.of_rows h1 h2 h3
 exact ⟨B', by rw [e], g1, g2, g3, g4, g5, g6, fun r hr => g7 r (hlo r hr).1 (hlo r hr).2.1 (hlo r hr).2.2⟩
theorem RdV.slice {lo N : Nat} {v : Value} {k : Nat} {L : List Vt} {w : World} (h : RdV lo N v k L w) : ∃ a c, v = .slice a k c := by
 obtain ⟨Us, h1, -⟩ := h
 exact own_slice h1
theorem RdR.slice {lo N : Nat} {v : Value} {k : Nat} {L : List Rv} {w : World} (h : RdR lo N v k L w) : ∃ a c, v = .slice a k c := by
 obtain ⟨Us, h1, -⟩ := h
 exact own_slice h1
def CasR (w : World) (P Q G y n : Int) (one : Bool) (B : Bo) (V : Vt) (e : Ending) (w' : World) : Prop := Below w.heap.size w w' ∧ ∃ k e', AdmS P Q G y n one B V k e' ∧ ((e' ≠ 0 ∧ e = .returned (.tuple #[.agg #[.slice none 0 0, .slice none 0 0, .slice none 0 0], .int .i64 e'])) ∨
 (e' = 0 ∧ ((k = 256 ∧ e = .returned (.tuple #[.agg #[.slice none 0 0, .slice none 0 0, .slice none 0 0], .int .i64 9])) ∨ (k ≠ 256 ∧ BackB w.heap.size w' (B.l ++ [V]) B.l' B.rs (B.n + 1) B.m B.k e))))
theorem Cl.grownX {w w' : World} {b : Nat} {l : List Value} {ob : Option Nat} (h : Cl w b l) (hg : w.grownBy w' ob) (ho : ∀ g, ob = some g → g ≠ b) : Cl w' b l := by
 have e := hg.block b h.lt (fun x => ho b x.symm rfl)
 exact ⟨fun i u hu => (World.cell?_of_block (w := w) (a := ⟨b, i, none⟩) e).trans (h.c i u hu), fun i => (World.frozen?_of_block (w := w) (a := ⟨b, i, none⟩) e).trans (h.f i), Nat.lt_of_lt_of_le h.lt hg.size⟩
set_option maxHeartbeats 16000000 in
theorem cast_any {P Q G y n : Int} {one : Bool} {B : Bo} {V : Vt} (w : World) (hT : Tabs w) (hP : 0 ≤ P) (hQ : 0 ≤ Q) (hG : 0 ≤ G) (hy : 0 ≤ y) (hB : BoIn w B) (hs : BoSm B) (hV : VtIn w V) (hn9 : V.n ≤ 10000) (hm9 : V.m ≤ 10000) :
 Calls Tryz.prog 16 #[.agg #[υ P, υ Q, υ G], υ y, .int .i64 n, .bool one, B.v, V.v] w (CasR w P Q G y n one B V) := by
 have HT := Lh hT
 have HB := Lh hB
 have HS := Lh hs
 have HV := Lh hV
 clear hT hB hs hV
 have hBs : B.n ≤ 1000 ∧ B.m ≤ 1000 ∧ B.k ≤ 1000 := by have := HS.o.s1; have := HS.o.s2; omega
 unfold Bo.v Vt.v
 obtain ⟨F_g, F_b, F_v, F_o, HBW⟩ := bx4 w [υ P, υ Q, υ G] 24 [.slice B.a B.n B.c, .slice B.b B.m B.d, .slice B.e B.k B.f] 55 V.cl 33 [.slice none 0 0, .slice none 0 0, .slice none 0 0] 55
 go_enter Tryz.func16, Tryz.ntmps16
 obtain ⟨qg0, qg1, qg2⟩ := F_g.o.k3
 obtain ⟨qb0, qb1, qb2⟩ := F_b.o.k3
 obtain ⟨⟨qv0, qv1, qv2, qv3, qv4, qv5, qv6, qv7, qv8, qv9, qva⟩, -⟩ := F_v.o.k11
 go_wp2_with fail
 clear qg0 qg1 qg2 qb0 qb1 qb2 qv0 qv1 qv2 qv3 qv4 qv5 qv6 qv7 qv8 qv9 qva
 refine (admit_any (V := V) _ (HT.o.below HBW.o) hP hQ hG hy (HB.o.keep HBW.o) HS.o (HV.o.keep HBW.o)).mono ?_
 rintro e w1 ⟨⟨k, e', rfl, hA⟩, hb1⟩
 have HA := Lh hA
 clear hA
 replace F_g := Lh (F_g.o.keep hb1)
 replace F_b := Lh (F_b.o.keep hb1)
 replace F_v := Lh (F_v.o.keep hb1)
 replace F_o := Lh (F_o.o.keep hb1)
 replace HBW := Kt HBW hb1
 clear hb1
 by_cases he : e' = 0
 case neg =>
  have HE := Lh he
  go_wp2_with (first
   | (refine wpL_storeCl rfl 55 (.tmp 12) (.tmp 29) (w.heap.size + 1 + 1 + 1) 0 _ [.slice none 0 0, .slice none 0 0, .slice none 0 0] [.slice none 0 0, .slice none 0 0, .slice none 0 0] rfl rfl rfl rfl (by kernel_rfl) (by intro u hu; simp at hu; rcases hu with rfl | rfl | rfl <;> rfl) F_o.o (by simp) rfl ?_
      intro w8 hc8 hg8 hz8
      have F_q := Lh hc8
      have HG8 := Lh hg8
      clear hc8 hg8 hz8))
  refine bodyPost_ret (res_booth2 rfl F_q.o _ rfl rfl) rfl ?_
  exact ⟨HBW.o.trans (HG8.o.blw (n := w.heap.size) (by omega) HBW.o.size), k, e', HA.o, .inl ⟨HE.o, rfl⟩⟩
 case pos =>
 subst he
 by_cases hk : k = 256
 case pos =>
  have HK := Lh hk
  subst hk
  go_wp2_with (first
   | (refine wpL_storeCl rfl 55 (.tmp 12) (.tmp 33) (w.heap.size + 1 + 1 + 1) 0 _ [.slice none 0 0, .slice none 0 0, .slice none 0 0] [.slice none 0 0, .slice none 0 0, .slice none 0 0] rfl rfl rfl rfl (by kernel_rfl) (by intro u hu; simp at hu; rcases hu with rfl | rfl | rfl <;> rfl) F_o.o (by simp) rfl ?_
      intro w8 hc8 hg8 hz8
      have F_q := Lh hc8
      have HG8 := Lh hg8
      clear hc8 hg8 hz8))
  refine bodyPost_ret (res_booth2 rfl F_q.o _ rfl rfl) rfl ?_
  exact ⟨HBW.o.trans (HG8.o.blw (n := w.heap.size) (by omega) HBW.o.size), _, _, HA.o, .inr ⟨rfl, .inl ⟨rfl, rfl⟩⟩⟩
 case neg =>
 have hd : decide (k = 256) = false := decide_eq_false hk
 have hd2 : (k == 256) = false := by simpa using hk
 have HK := Lh hk
 clear hk
 obtain ⟨qb0, qb1, qb2⟩ := F_b.o.k3
 go_wp2_with fail
 clear qb0 qb1 qb2
 refine (twin_any _ (HB.o.keep HBW.o) HS.o).mono ?_
 rintro e w2 ⟨⟨v1, v2, v3, N1, N2, N3, rfl, hn1, hn2, hn3, hn4, hr1, hr2, hr3⟩, hb2⟩
 have hlt0 := F_o.o.lt
 obtain ⟨n0, hn0⟩ : ∃ n, w1.heap.size = n := ⟨_, rfl⟩
 rw [hn0] at hlt0 hn1 hr1
 obtain ⟨a1, c1, rfl⟩ := hr1.slice
 obtain ⟨a2, c2, rfl⟩ := hr2.slice
 obtain ⟨a3, c3, rfl⟩ := hr3.slice
 replace F_v := Lh (F_v.o.keep hb2)
 replace F_o := Lh (F_o.o.keep hb2)
 replace HBW := Kt HBW hb2
 have HD1 := Lh hr1
 have HD2 := Lh hr2
 have HD3 := Lh hr3
 clear hb2 hr1 hr2 hr3 hn0 F_b
 obtain ⟨wo, rfl⟩ : ∃ wo, wo = w2 := ⟨_, rfl⟩
 go_wp2_with fail
 have F_t := Lh (Cl.at wo [.slice a1 B.n c1, .slice a2 B.m c2, .slice a3 B.k c3] 55 wo.heap.size rfl)
 replace F_v := Lh (F_v.o.alloc (.cells #[.slice a1 B.n c1, .slice a2 B.m c2, .slice a3 B.k c3] 55))
 replace F_o := Lh (F_o.o.alloc (.cells #[.slice a1 B.n c1, .slice a2 B.m c2, .slice a3 B.k c3] 55))
 replace HBW := Lh (HBW.o.alloc HBW.o.size (.cells #[.slice a1 B.n c1, .slice a2 B.m c2, .slice a3 B.k c3] 55))
 obtain ⟨HX, hHX⟩ : ∃ B, B = wo.heap.size := ⟨_, rfl⟩
 have hls : HX < (wo.alloc (.cells #[.slice a1 B.n c1, .slice a2 B.m c2, .slice a3 B.k c3] 55)).heap.size := by rw [hHX]; simp
 rw [← hHX] at F_t hn4 ⊢
 clear hHX
 have HPS := Lh (show (∀ b, n0 ≤ b → b < N1 → (fun b => (n0 ≤ b ∧ b < N1) ∨ HX < b) b) ∧ n0 ≤ N3 from ⟨fun b h1 h2 => .inl ⟨h1, h2⟩, by omega⟩)
 have HR1 := Lh ((HD1.o.rp (fun b => (n0 ≤ b ∧ b < N1) ∨ HX < b) HPS.o.1).alloc (.cells #[.slice a1 B.n c1, .slice a2 B.m c2, .slice a3 B.k c3] 55))
 have HR2 := Lh ((HD2.o.rp (fun b => N1 ≤ b ∧ b < N2) (fun b h1 h2 => ⟨h1, h2⟩)).alloc (.cells #[.slice a1 B.n c1, .slice a2 B.m c2, .slice a3 B.k c3] 55))
 have HR3 := Lh ((HD3.o.rp (fun b => N2 ≤ b ∧ b < N3) (fun b h1 h2 => ⟨h1, h2⟩)).alloc (.cells #[.slice a1 B.n c1, .slice a2 B.m c2, .slice a3 B.k c3] 55))
 have HOG := Lh (show ∀ g, (Value.slice a1 B.n c1).ownBlock = some g → n0 ≤ g ∧ g < N1 from fun g hg => ⟨(HD1.o.choose_spec.1.lt g hg).1, HD1.o.choose_spec.2.1 g hg⟩)
 have HOF := Lh (show ∀ g, (Value.slice a1 B.n c1).ownBlock = some g → g < HX + 1 from fun g hg => by have := (HOG.o g hg).2; omega)
 obtain ⟨wx, hwx⟩ : ∃ wx, wx = wo.alloc (.cells #[.slice a1 B.n c1, .slice a2 B.m c2, .slice a3 B.k c3] 55) := ⟨_, rfl⟩
 rw [← hwx] at F_t HR1 HR2 HR3 HBW hls F_v F_o ⊢
 clear hwx HD1 HD2 HD3
 replace F_t := Lh F_t.o.drew
 replace F_v := Lh F_v.o.drew
 replace F_o := Lh F_o.o.drew
 replace HR1 := Lh HR1.o.drew
 replace HR2 := Lh HR2.o.drew
 replace HR3 := Lh HR3.o.drew
 replace HBW := Lh HBW.o.drew
 have hS : Cl wx.drew HX [.slice a1 B.n c1, .slice a2 B.m c2, .slice a3 B.k c3] ∧ Cl wx.drew (w.heap.size + 1 + 1) V.cl := ⟨F_t.o, F_v.o⟩
 refine wp_region_stage 5 (fun w' => Cl w' HX [.slice a1 B.n c1, .slice a2 B.m c2, .slice a3 B.k c3] ∧ Cl w' (w.heap.size + 1 + 1) V.cl) (by kernel_rfl) ?_
 refine tkQ 0 (some 36) (.fieldAddr 55 (.tmp 16) 0) 0 ?_
 simp only [sY]
 refine tkL (i := 1) (some 37) (.load 52 (.tmp 36)) 52 [5] (v := ?_) hS (fun w' hSw => ?_) ?_
 rotate_left
 · obtain ⟨s1, s2⟩ := hSw; have t0 := s1.c 0 _ rfl; obtain ⟨⟨q0, q1, q2, q3, q4, q5, q6, q7, q8, q9, q10⟩, -⟩ := s2.k11
   unfold bareOp; go_simp; try with_reducible rfl
 simp only [sY]
 refine tkL (i := 2) (some 38) (.load 33 (.tmp 11)) 33 [3, 4, 5] (v := ?_) hS (fun w' hSw => ?_) ?_
 rotate_left
 · obtain ⟨s1, s2⟩ := hSw; have t0 := s1.c 0 _ rfl; obtain ⟨⟨q0, q1, q2, q3, q4, q5, q6, q7, q8, q9, q10⟩, -⟩ := s2.k11
   unfold bareOp; go_simp; try with_reducible rfl
 simp only [sY]
 refine onl (i := 3) (some 39) (.call { callee := .value (.func 48), args := #[.tmp 38], argTypes := #[33] }) 33 (fun K hK => ?_)
 unfold bareOp
 go_wp2_with (go_at_call 48; refine (twinVote_new (V := V) _ (HV.o.keep HBW.o) hn9 hm9).mono ?_; rintro e w5 ⟨U, rfl, hU5, hS5, hh1, hh2, hb5⟩)
 replace F_t := Lh (F_t.o.keep hb5)
 replace F_v := Lh (F_v.o.keep hb5)
 replace F_o := Lh (F_o.o.keep hb5)
 replace HR1 := Lh (HR1.o.keep hb5)
 replace HR2 := Lh (HR2.o.keep hb5)
 replace HR3 := Lh (HR3.o.keep hb5)
 replace HBW := Kt HBW hb5
 replace hS := (show Cl _ HX [.slice a1 B.n c1, .slice a2 B.m c2, .slice a3 B.k c3] ∧ Cl _ (w.heap.size + 1 + 1) V.cl from ⟨F_t.o, F_v.o⟩)
 have HU5 := Lh hU5
 have HS5 := Lh hS5
 have HH5 := Lh (show highB U.a U.n (HX + 1) ∧ highB U.b U.m (HX + 1) from ⟨hh1.mono (by (try simp only [World.size_drew]); omega), hh2.mono (by (try simp only [World.size_drew]); omega)⟩)
 have hz5 := hb5.size
 have hls5 : HX < w5.heap.size := by (try simp only [World.size_drew] at hz5); omega
 unfold Vt.v
 clear hb5 hU5 hS5 hz5 hh1 hh2
 refine hK.o _ _ (fun _ => hS) ?_
 clear hK K
 try simp only [sY]
 refine onl (i := 4) (some 40) (.buildSlice 52 1 #[(0, .tmp 39)]) 52 (fun K hK => ?_)
 unfold bareOp
 go_wp2_with fail
 replace F_t := Lh (F_t.o.alloc (.cells U.ca 33))
 replace F_v := Lh (F_v.o.alloc (.cells U.ca 33))
 replace F_o := Lh (F_o.o.alloc (.cells U.ca 33))
 replace HR1 := Lh (HR1.o.alloc (.cells U.ca 33))
 replace HR2 := Lh (HR2.o.alloc (.cells U.ca 33))
 replace HR3 := Lh (HR3.o.alloc (.cells U.ca 33))
 replace HBW := Lh (HBW.o.alloc HBW.o.size (.cells U.ca 33))
 replace hS := (show Cl _ HX [.slice a1 B.n c1, .slice a2 B.m c2, .slice a3 B.k c3] ∧ Cl _ (w.heap.size + 1 + 1) V.cl from ⟨F_t.o, F_v.o⟩)
 replace HU5 := Lh (HU5.o.keep ((Below.refl _ _).alloc (Nat.le_refl _) (.cells U.ca 33)))
 refine hK.o _ _ (fun _ => hS) ?_
 clear hK K
 try simp only [sY]
 refine onl (i := 5) (some 41) (.call { callee := .builtin .append, args := #[.tmp 37, .tmp 40], argTypes := #[52, 52] }) 52 (fun K hK => ?_)
 unfold bareOp
 refine wp_pushV (.tmp 37) (.tmp 40) rfl (fun b => (n0 ≤ b ∧ b < N1) ∨ HX < b) B.n w5.heap.size (.slice a1 B.n c1) B.l U V rfl rfl HR1.o (cell_list_at _ _ _ _ rfl) (by omega) (.inr (by simp <;> omega)) HU5.o ⟨HH5.o.1.off HOF.o, HH5.o.2.off HOF.o⟩ ⟨HH5.o.1.inB _ (fun b hb => .inr (by omega)), HH5.o.2.inB _ (fun b hb => .inr (by omega))⟩ HS5.o.key ?_
 intro a9 c9 w9 hR9 hg9
 replace HR1 := Lh hR9
 replace HR2 := Lh (HR2.o.grown hg9 (fun g hg => by have := (HOG.o g hg).2; simp only [not_and, Nat.not_lt]; omega))
 replace HR3 := Lh (HR3.o.grown hg9 (fun g hg => by have := (HOG.o g hg).2; simp only [not_and, Nat.not_lt]; omega))
 have HB9 := Lh (Below.rowT (n := n0) hg9 (fun g hg => by have := (HOG.o g hg).1; omega) (by simp <;> omega))
 replace F_v := Lh (F_v.o.keepN HB9.o (by omega))
 replace F_o := Lh (F_o.o.keepN HB9.o (by omega))
 replace F_t := Lh (F_t.o.grownX hg9 (fun g hg => by have := (HOG.o g hg).2; omega))
 replace HBW := Lh (HBW.o.trans (HB9.o.mono (by omega)))
 have hz9 := hg9.size
 have hlsw9 : HX < w9.heap.size := by simp at hz9; omega
 clear HB9 hR9 hg9 hz9
 refine hK.o _ _ lt8 ?_
 clear hK K
 try simp only [sY]
 refine tkP (i := 6) (some 42) (.fieldAddr 55 (.tmp 16) 0) 0 lt8 ?_
 simp only [sY]
 have q0 := F_t.o.c 0 _ rfl
 have qf0 := F_t.o.f 0
 refine onl (i := 7) none (.store 52 (.tmp 42) (.tmp 41)) 0 (fun K hK => ?_)
 unfold bareOp
 go_wp2_with fail
 refine hK.o _ _ lt8 ?_
 clear hK K
 try simp only [sY]
 refine wpAnyB_done (by kernel_rfl) ?_ _
 replace F_t := Lh (F_t.o.set (m := [.slice a9 (B.n + 1) c9, .slice a2 B.m c2, .slice a3 B.k c3]) 0 (.slice a9 (B.n + 1) c9) (by simp) rfl)
 replace F_o := Lh (F_o.o.far ⟨HX, 0, none⟩ (.slice a9 (B.n + 1) c9) (by simp <;> omega))
 replace HR1 := Lh (HR1.o.set ⟨HX, 0, none⟩ (.slice a9 (B.n + 1) c9) (by simp <;> omega))
 replace HR2 := Lh (HR2.o.set ⟨HX, 0, none⟩ (.slice a9 (B.n + 1) c9) (by simp <;> omega))
 replace HR3 := Lh (HR3.o.set ⟨HX, 0, none⟩ (.slice a9 (B.n + 1) c9) (by simp <;> omega))
 replace HBW := Lh (HBW.o.setCell (p := ⟨HX, 0, none⟩) (by simp <;> omega) (.slice a9 (B.n + 1) c9))
 go_wp2_with (first
  | (refine wpL_loadCl rfl 55 (.tmp 16) HX _ rfl rfl _ Tryz.underlying55 rfl (by kernel_rfl) F_t.o ?_)
  | (refine wpL_storeCl rfl 55 (.tmp 12) (.tmp 43) (w.heap.size + 1 + 1 + 1) 0 _ [.slice a9 (B.n + 1) c9, .slice a2 B.m c2, .slice a3 B.k c3] [.slice a9 (B.n + 1) c9, .slice a2 B.m c2, .slice a3 B.k c3] rfl rfl rfl rfl (by kernel_rfl) (by intro u hu; simp at hu; rcases hu with rfl | rfl | rfl <;> rfl) F_o.o (by simp) rfl ?_
     intro w8 hc8 hg8 hz8
     have F_q := Lh hc8
     have HG8 := Lh hg8
     clear hc8 hg8 hz8))
 refine bodyPost_ret (res_booth2 rfl F_q.o _ rfl rfl) rfl ?_
 refine ⟨HBW.o.trans (HG8.o.blw (n := w.heap.size) (by omega) HBW.o.size), _, _, HA.o, .inr ⟨rfl, .inr ⟨HK.o, ?_⟩⟩⟩
 have hng : ∀ g, some (w.heap.size + 1 + 1 + 1) = some g → g < n0 := fun g hg => by cases hg; exact hlt0
 exact BackB.of (lo := w.heap.size) (fun r hr => by have hq := hng _ rfl; refine ⟨?_, ?_, ?_⟩ <;> simp only [not_and, not_or, Nat.not_lt] <;> omega) (HR1.o.grown HG8.o.grown (fun g hg => by have := hng g hg; omega)) (HR2.o.grown HG8.o.grown (fun g hg => by have := hng g hg; omega)) (HR3.o.grown HG8.o.grown (fun g hg => by have := hng g hg; omega))
end Go.Proofs.YtlbldpkgnonbpaaGreatDoor
