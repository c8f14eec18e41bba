/- Folded: OpenS, ListS, OpenL, OpenP, Vt. -/
import Derived.Test.YtlbldpkgnonbpaaGreatDoorQsA
import Derived.Test.YtlbldpkgnonbpaaGreatDoorQsB
import Derived.Laws.AppendOwn
import Derived.Laws.AppendOwnNone
import Derived.WalkKit
import Derived.Deep.SlicePairs
import Derived.ChangeSlices
import Derived.OpenShut
import Derived.Deep.Slices
import Derived.Laws.BitsAllLaws
import Derived.Laws.ShiftsVar
import Derived.Deep.RegionHeld3
set_option linter.unusedSimpArgs false
set_option linter.unusedVariables false
set_option maxRecDepth 100000
/- How a ciphertext among the arguments is opened. -/
namespace Go.Proofs.YtlbldpkgnonbpaaGreatDoor
open Go.ChangeShapes Go.WideShapes Go.ChangeAt Go.RowKit
section
variable {H : Type} {enc : TypeId × Value → H} {w : World} {base : Nat} {spare : Nat → Bool} {held : Bool} {r : Reach} {b0 : Nat} {v : Value} {d : DataW H} {p : List MemPlace}
end
end Go.Proofs.YtlbldpkgnonbpaaGreatDoor
/- Slices of ciphertexts: how they lie, and the copies and comparisons of the reference. -/
namespace Go.Proofs.YtlbldpkgnonbpaaGreatDoor
open Go.RowKit Num
theorem add_pl (s o i : Nat) : (⟨s, o, none⟩ : Addr).add i = ⟨s, o + i, none⟩ := by unfold Addr.add; split <;> simp_all
def ShS (w : World) (a : Option Addr) (n : Nat) (ps : List (Int × Int)) : Prop :=
 (n = 0 ∧ ps = []) ∨ ∃ s o, a = some ⟨s, o, none⟩ ∧ n = ps.length ∧ s < w.heap.size ∧ ∀ i, i < ps.length → w.cell? ⟨s, o + i * 2, none⟩ = some (υ (ps.getD i (0, 0)).1) ∧ w.cell? ⟨s, o + i * 2 + 1, none⟩ = some (υ (ps.getD i (0, 0)).2)
theorem ShS.len {w : World} {a : Option Addr} {n : Nat} {ps : List (Int × Int)} (h : ShS w a n ps) : n = ps.length := by
 rcases h with ⟨h1, h2⟩ | ⟨s, o, _, h1, _⟩
 · rw [h1, h2]; rfl
 · exact h1
theorem ShS.keep {w w' : World} {a : Option Addr} {n : Nat} {ps : List (Int × Int)} (h : ShS w a n ps) (hb : Below w.heap.size w w') : ShS w' a n ps := by
 rcases h with h | ⟨s, o, h0, h1, h2, h3⟩
 · exact .inl h
 · exact .inr ⟨s, o, h0, h1, Nat.lt_of_lt_of_le h2 hb.size, fun i hi => ⟨(hb.cell (p := ⟨s, o + i * 2, none⟩) h2).trans (h3 i hi).1, (hb.cell (p := ⟨s, o + i * 2 + 1, none⟩) h2).trans (h3 i hi).2⟩⟩
theorem ShS.drew {w : World} {a : Option Addr} {n : Nat} {ps : List (Int × Int)} (h : ShS w a n ps) : ShS w.drew a n ps := h.keep (Below.refl _ _).drew
theorem ShS.alloc {w : World} {a : Option Addr} {n : Nat} {ps : List (Int × Int)} (h : ShS w a n ps) (x : Obj) : ShS (w.alloc x) a n ps := h.keep ((Below.refl _ _).alloc (Nat.le_refl _) x)
theorem ShS.nil (w : World) (a : Option Addr) : ShS w a 0 [] := .inl ⟨rfl, rfl⟩
theorem ShS.at {w : World} {a : Option Addr} {n : Nat} {ps : List (Int × Int)} (h : ShS w a n ps) (k : Nat) (hk : k < n) : ∃ s o, a = some ⟨s, o, none⟩ ∧ s < w.heap.size ∧ w.cell? ⟨s, o + k * 2, none⟩ = some (υ (ps.getD k (0, 0)).1) ∧ w.cell? ⟨s, o + k * 2 + 1, none⟩ = some (υ (ps.getD k (0, 0)).2) := by
 rcases h with ⟨h1, _⟩ | ⟨s, o, h0, h1, h2, h3⟩
 · omega
 · exact ⟨s, o, h0, h2, h3 k (by omega)⟩
theorem ShS.drop {w : World} {ad : Addr} {n : Nat} {ps : List (Int × Int)} (h : ShS w (some ad) n ps) (m : Nat) : ShS w (some (ad.add (m * 2))) (n - m) (ps.drop m) := by
 rcases h with ⟨h, h'⟩ | ⟨s', o', h0, h1, h2, h3⟩
 · exact .inl ⟨by omega, by rw [h']; simp⟩
 · cases h0
   refine .inr ⟨s', o' + m * 2, by rw [add_pl], by simp [h1], h2, fun i hi => ?_⟩
   have hi' : m + i < ps.length := by simp at hi; omega
   have := h3 (m + i) hi'
   rw [show o' + (m + i) * 2 = o' + m * 2 + i * 2 by omega] at this
   have e : (ps.drop m).getD i (0, 0) = ps.getD (m + i) (0, 0) := by simp [List.getD_eq_getElem?_getD]
   rw [e]; exact this
theorem ShS.take {w : World} {a : Option Addr} {n : Nat} {ps : List (Int × Int)} (h : ShS w a n ps) (m : Nat) (hm : m ≤ n) : ShS w a m (ps.take m) := by
 rcases h with ⟨h, h'⟩ | ⟨s', o', h0, h1, h2, h3⟩
 · exact .inl ⟨by omega, by rw [h']; simp⟩
 · refine .inr ⟨s', o', h0, by simp; omega, h2, fun i hi => ?_⟩
   have hi' : i < m ∧ i < ps.length := by simp at hi; omega
   have e : (ps.take m).getD i (0, 0) = ps.getD i (0, 0) := by simp [List.getD_eq_getElem?_getD, List.getElem?_take, hi'.1]
   rw [e]; exact h3 i hi'.2
def flatS : List (Int × Int) → List Value
 | [] => []
 | p :: ps => υ p.1 :: υ p.2 :: flatS ps
theorem flatS_length : ∀ ps : List (Int × Int), (flatS ps).length = ps.length * 2
 | [] => rfl
 | _ :: ps => by simp [flatS, flatS_length ps]; omega
theorem flatS_at : ∀ (ps : List (Int × Int)) (i : Nat), i < ps.length → (flatS ps)[i * 2]? = some (υ (ps.getD i (0, 0)).1) ∧ (flatS ps)[i * 2 + 1]? = some (υ (ps.getD i (0, 0)).2)
 | [], i, h => by simp at h
 | p :: ps, 0, _ => by simp [flatS]
 | p :: ps, i + 1, h => by
  have := flatS_at ps i (by simpa using h)
  rw [show (i + 1) * 2 = i * 2 + 2 by omega]
  simpa [flatS] using this
theorem flatS_one : ∀ (ps : List (Int × Int)) u, u ∈ flatS ps → u.oneCell' = true
 | [], u, h => by simp [flatS] at h
 | p :: ps, u, h => by
  simp only [flatS, List.mem_cons] at h
  rcases h with rfl | rfl | h
  · rfl
  · rfl
  · exact flatS_one ps u h
theorem ShS.cells {w : World} {ad : Addr} {n : Nat} {ps : List (Int × Int)} (h : ShS w (some ad) n ps) : ∀ j u, (flatS ps)[j]? = some u → w.cell? (ad.add j) = some u := by
 rcases h with ⟨_, h⟩ | ⟨s, o, h0, h1, h2, h3⟩
 · subst h; intro j u hj; simp [flatS] at hj
 · cases h0
   intro j u hj
   have hlt : j < ps.length * 2 := by
    rw [← flatS_length ps]
    exact (List.getElem?_eq_some_iff.1 hj).1
   obtain ⟨i, hi | hi⟩ : ∃ i, j = i * 2 ∨ j = i * 2 + 1 := ⟨j / 2, by omega⟩
   · subst hi
     rw [(flatS_at ps i (by omega)).1] at hj
     cases hj
     rw [add_pl]
     exact (h3 i (by omega)).1
   · subst hi
     rw [(flatS_at ps i (by omega)).2] at hj
     cases hj
     have := (h3 i (by omega)).2
     rw [show o + i * 2 + 1 = o + (i * 2 + 1) by omega] at this
     rw [add_pl]
     exact this
theorem ShS.of_owned {w : World} {base : Nat} {e : TypeId} {v : Value} {n : Nat} {ps : List (Int × Int)} (h : w.ownsRow base e 2 v n (flatS ps)) : ∃ a c, v = .slice a n c ∧ ShS w a n ps := by
 have hl := h.1
 rw [flatS_length] at hl
 rcases h.2 with ⟨rfl, h0⟩ | ⟨g, cap, cur, rfl, hb, hg, _⟩
 · subst h0
   have : ps = [] := List.eq_nil_of_length_eq_zero (by omega)
   subst this
   exact ⟨none, 0, rfl, ShS.nil w _⟩
 · refine ⟨_, _, rfl, .inr ⟨g, 0, rfl, by omega, ?_, fun i hi => ?_⟩⟩
   · have := h.lt g rfl
     exact this.2
   · have hc := h.cells (g := g) rfl
     have h1 := flatS_at ps i hi
     refine ⟨?_, ?_⟩
     · have := hc _ _ h1.1
       rwa [add_pl] at this
     · have := hc _ _ h1.2
       rw [add_pl] at this
       rwa [Nat.add_assoc]
end Go.Proofs.YtlbldpkgnonbpaaGreatDoor
/- How slices among the arguments are opened: ciphertexts, numbers, bytes. -/
namespace Go.Proofs.YtlbldpkgnonbpaaGreatDoor
open Go.ChangeShapes Go.WideShapes Go.ChangeAt Go.RowKit
section
variable {H : Type} {enc : TypeId × Value → H} {w : World} {base : Nat} {held : Bool} {r : Reach} {b0 : Nat} {v : Value} {d : DataW H} {p : List MemPlace}
end
end Go.Proofs.YtlbldpkgnonbpaaGreatDoor
/- How pairs of numbers and bit proofs among the arguments are opened. -/
namespace Go.Proofs.YtlbldpkgnonbpaaGreatDoor
open Go.ChangeShapes Go.WideShapes Go.ChangeAt Go.RowKit
theorem list2 : ∀ (l : List Value), l.length = 2 → ∃ a b, l = [a, b]
 | [a, b], _ => ⟨a, b, rfl⟩
theorem list8 : ∀ (l : List Value), l.length = 8 → ∃ a b c d e f g i, l = [a, b, c, d, e, f, g, i]
 | [a, b, c, d, e, f, g, i], _ => ⟨a, b, c, d, e, f, g, i, rfl⟩
section
variable {H : Type} {enc : TypeId × Value → H} {P : Program} {w : World} {base : Nat} {spare : Nat → Bool} {held : Bool} {r : Reach} {b0 : Nat} {v : Value} {d : DataW H} {p : List MemPlace}
theorem arr2 {t e : TypeId} {fuel : Nat} {x0 x1 : Value} {x : DataW H × List MemPlace} (ht : P.underlying t = some (.array 2 e)) (he : P.underlying e = some (.int .u64)) (hc : P.cellsOf e = 1) (h : DataW.trod enc P w base spare held fuel t [x0, x1] = some x) :
 ∃ a b : Int, x0 = υ a ∧ x1 = υ b ∧ U64 a ∧ U64 b := by
 obtain ⟨xs, m, _, _, hl, hn, hx⟩ := DataW.trod_array ht h
 have h0 := hx 0 (by omega)
 have h1 := hx 1 (by omega)
 rw [hc, List.getElem?_eq_getElem (by omega)] at h0 h1
 obtain ⟨a, e0, _, wa⟩ := DataW.trod_int he h0
 obtain ⟨b, e1, _, wb⟩ := DataW.trod_int he h1
 simp at e0 e1
 exact ⟨a, b, e0, e1, U64.wf wa, U64.wf wb⟩
end
section
variable {H : Type} {enc : TypeId × Value → H} {w : World} {base : Nat} {spare : Nat → Bool} {held : Bool} {r : Reach} {b0 : Nat} {v : Value} {d : DataW H} {p : List MemPlace}
end
end Go.Proofs.YtlbldpkgnonbpaaGreatDoor
/- Votes: how they lie, and how lists of them among the arguments are opened. -/
namespace Go.Proofs.YtlbldpkgnonbpaaGreatDoor
open Go.ChangeShapes Go.WideShapes Go.ChangeAt Go.RowKit Num
structure Bt where
 r0 : Int
 r1 : Int
 s0 : Int
 s1 : Int
 c0 : Int
 c1 : Int
 z0 : Int
 z1 : Int
def Bt.vs (x : Bt) : List Value := [.int .u64 x.r0, .int .u64 x.r1, .int .u64 x.s0, .int .u64 x.s1, .int .u64 x.c0, .int .u64 x.c1, .int .u64 x.z0, .int .u64 x.z1]
def Bt.u (x : Bt) : Prop := U64 x.r0 ∧ U64 x.r1 ∧ U64 x.s0 ∧ U64 x.s1 ∧ U64 x.c0 ∧ U64 x.c1 ∧ U64 x.z0 ∧ U64 x.z1
def Bt.zero : Bt := ⟨0, 0, 0, 0, 0, 0, 0, 0⟩
instance : Inhabited Bt := ⟨Bt.zero⟩
def ShB (w : World) (a : Option Addr) (n : Nat) (ps : List Bt) : Prop :=
 (n = 0 ∧ ps = []) ∨ ∃ s o, a = some ⟨s, o, none⟩ ∧ n = ps.length ∧ s < w.heap.size ∧ ∀ i, i < ps.length → ∀ k u, (ps.getD i Bt.zero).vs[k]? = some u → w.cell? ⟨s, o + i * 8 + k, none⟩ = some u
theorem ShB.len {w : World} {a : Option Addr} {n : Nat} {ps : List Bt} (h : ShB w a n ps) : n = ps.length := by
 rcases h with ⟨h1, h2⟩ | ⟨s, o, _, h1, _⟩
 · rw [h1, h2]; rfl
 · exact h1
theorem ShB.keep {w w' : World} {a : Option Addr} {n : Nat} {ps : List Bt} (h : ShB w a n ps) (hb : Below w.heap.size w w') : ShB w' a n ps := by
 rcases h with h | ⟨s, o, h0, h1, h2, h3⟩
 · exact .inl h
 · exact .inr ⟨s, o, h0, h1, Nat.lt_of_lt_of_le h2 hb.size, fun i hi k u hu => (hb.cell (p := ⟨s, o + i * 8 + k, none⟩) h2).trans (h3 i hi k u hu)⟩
structure BCells (w : World) (s p : Nat) (z : Bt) : Prop where
 lt : s < w.heap.size
 c0 : w.cell? ⟨s, p, none⟩ = some (υ z.r0)
 c1 : w.cell? ⟨s, p + 1, none⟩ = some (υ z.r1)
 c2 : w.cell? ⟨s, p + 2, none⟩ = some (υ z.s0)
 c3 : w.cell? ⟨s, p + 3, none⟩ = some (υ z.s1)
 c4 : w.cell? ⟨s, p + 4, none⟩ = some (υ z.c0)
 c5 : w.cell? ⟨s, p + 5, none⟩ = some (υ z.c1)
 c6 : w.cell? ⟨s, p + 6, none⟩ = some (υ z.z0)
 c7 : w.cell? ⟨s, p + 7, none⟩ = some (υ z.z1)
theorem ShB.at {w : World} {a : Option Addr} {n : Nat} {ps : List Bt} (h : ShB w a n ps) (k : Nat) (hk : k < n) : ∃ s o z, a = some ⟨s, o, none⟩ ∧ ps[k]? = some z ∧ BCells w s (o + k * 8) z := by
 rcases h with ⟨h1, _⟩ | ⟨s, o, h0, h1, h2, h3⟩
 · omega
 · have hl : k < ps.length := by omega
   refine ⟨s, o, ps[k], h0, List.getElem?_eq_getElem hl, ?_⟩
   have e : ps.getD k Bt.zero = ps[k] := by rw [List.getD_eq_getElem?_getD, List.getElem?_eq_getElem hl]; rfl
   have g := h3 k hl
   rw [e] at g
   exact ⟨h2, g 0 _ rfl, g 1 _ rfl, g 2 _ rfl, g 3 _ rfl, g 4 _ rfl, g 5 _ rfl, g 6 _ rfl, g 7 _ rfl⟩
structure Vt where
 a : Option Addr
 n : Nat
 c : Nat
 bs : List (Int × Int)
 b : Option Addr
 m : Nat
 d : Nat
 ps : List Bt
 one : Bool
 z : Bt
instance : Inhabited Vt := ⟨⟨none, 0, 0, [], none, 0, 0, [], false, Bt.zero⟩⟩
def Vt.vs (V : Vt) : List Value := [.slice V.a V.n V.c, .slice V.b V.m V.d, .bool V.one] ++ V.z.vs
def Vt.v (V : Vt) : Value := .agg #[.slice V.a V.n V.c, .slice V.b V.m V.d, .bool V.one, .int .u64 V.z.r0, .int .u64 V.z.r1, .int .u64 V.z.s0, .int .u64 V.z.s1, .int .u64 V.z.c0, .int .u64 V.z.c1, .int .u64 V.z.z0, .int .u64 V.z.z1]
abbrev Vt.cl (V : Vt) : List Value := [.slice V.a V.n V.c, .slice V.b V.m V.d, .bool V.one, .int .u64 V.z.r0, .int .u64 V.z.r1, .int .u64 V.z.s0, .int .u64 V.z.s1, .int .u64 V.z.c0, .int .u64 V.z.c1, .int .u64 V.z.z0, .int .u64 V.z.z1]
abbrev Vt.ca (V : Vt) : Array Value := #[.slice V.a V.n V.c, .slice V.b V.m V.d, .bool V.one, .int .u64 V.z.r0, .int .u64 V.z.r1, .int .u64 V.z.s0, .int .u64 V.z.s1, .int .u64 V.z.c0, .int .u64 V.z.c1, .int .u64 V.z.z0, .int .u64 V.z.z1]
structure VtIn (w : World) (V : Vt) : Prop where
 h1 : ShS w V.a V.n V.bs
 u1 : ∀ q, q ∈ V.bs → U64 q.1 ∧ U64 q.2
 k1 : V.a = none → V.c = 0
 h2 : ShB w V.b V.m V.ps
 u2 : ∀ q, q ∈ V.ps → q.u
 k2 : V.b = none → V.d = 0
 uz : V.z.u
theorem VtIn.keep {w w' : World} {V : Vt} (h : VtIn w V) (hb : Below w.heap.size w w') : VtIn w' V := ⟨h.h1.keep hb, h.u1, h.k1, h.h2.keep hb, h.u2, h.k2, h.uz⟩
structure VRow (w : World) (s o : Nat) (l : List Vt) : Prop where
 lt : s < w.heap.size
 c : ∀ i (h : i < l.length), ∀ k u, l[i].vs[k]? = some u → w.cell? ⟨s, o + i * 11 + k, none⟩ = some u
 ok : ∀ V, V ∈ l → VtIn w V
theorem VRow.keep {w w' : World} {s o : Nat} {l : List Vt} (h : VRow w s o l) (hb : Below w.heap.size w w') : VRow w' s o l :=
 ⟨Nat.lt_of_lt_of_le h.lt hb.size, fun i hi k u hu => (hb.cell (p := ⟨s, o + i * 11 + k, none⟩) h.lt).trans (h.c i hi k u hu), fun V hV => (h.ok V hV).keep hb⟩
def ShV (w : World) (a : Option Addr) (n : Nat) (l : List Vt) : Prop := (n = 0 ∧ l = []) ∨ ∃ s o, a = some ⟨s, o, none⟩ ∧ n = l.length ∧ VRow w s o l
theorem ShV.len {w : World} {a : Option Addr} {n : Nat} {l : List Vt} (h : ShV w a n l) : n = l.length := by
 rcases h with ⟨h1, h2⟩ | ⟨s, o, _, h1, _⟩
 · rw [h1, h2]; rfl
 · exact h1
theorem ShV.keep {w w' : World} {a : Option Addr} {n : Nat} {l : List Vt} (h : ShV w a n l) (hb : Below w.heap.size w w') : ShV w' a n l := by
 rcases h with h | ⟨s, o, h0, h1, h2⟩
 · exact .inl h
 · exact .inr ⟨s, o, h0, h1, h2.keep hb⟩
theorem ShV.nil (w : World) (a : Option Addr) : ShV w a 0 [] := .inl ⟨rfl, rfl⟩
structure VCells (w : World) (s p : Nat) (V : Vt) : Prop where
 lt : s < w.heap.size
 c0 : w.cell? ⟨s, p, none⟩ = some (.slice V.a V.n V.c)
 c1 : w.cell? ⟨s, p + 1, none⟩ = some (.slice V.b V.m V.d)
 c2 : w.cell? ⟨s, p + 2, none⟩ = some (.bool V.one)
 c3 : w.cell? ⟨s, p + 3, none⟩ = some (υ V.z.r0)
 c4 : w.cell? ⟨s, p + 4, none⟩ = some (υ V.z.r1)
 c5 : w.cell? ⟨s, p + 5, none⟩ = some (υ V.z.s0)
 c6 : w.cell? ⟨s, p + 6, none⟩ = some (υ V.z.s1)
 c7 : w.cell? ⟨s, p + 7, none⟩ = some (υ V.z.c0)
 c8 : w.cell? ⟨s, p + 8, none⟩ = some (υ V.z.c1)
 c9 : w.cell? ⟨s, p + 9, none⟩ = some (υ V.z.z0)
 c10 : w.cell? ⟨s, p + 10, none⟩ = some (υ V.z.z1)
theorem VCells.keep {w w' : World} {s p : Nat} {V : Vt} (h : VCells w s p V) (hb : Below w.heap.size w w') : VCells w' s p V :=
 ⟨Nat.lt_of_lt_of_le h.lt hb.size, (hb.cell (p := ⟨s, p, none⟩) h.lt).trans h.c0, (hb.cell (p := ⟨s, p + 1, none⟩) h.lt).trans h.c1, (hb.cell (p := ⟨s, p + 2, none⟩) h.lt).trans h.c2, (hb.cell (p := ⟨s, p + 3, none⟩) h.lt).trans h.c3, (hb.cell (p := ⟨s, p + 4, none⟩) h.lt).trans h.c4, (hb.cell (p := ⟨s, p + 5, none⟩) h.lt).trans h.c5, (hb.cell (p := ⟨s, p + 6, none⟩) h.lt).trans h.c6, (hb.cell (p := ⟨s, p + 7, none⟩) h.lt).trans h.c7, (hb.cell (p := ⟨s, p + 8, none⟩) h.lt).trans h.c8, (hb.cell (p := ⟨s, p + 9, none⟩) h.lt).trans h.c9, (hb.cell (p := ⟨s, p + 10, none⟩) h.lt).trans h.c10⟩
theorem VRow.at {w : World} {s o : Nat} {l : List Vt} (h : VRow w s o l) (i : Nat) (hi : i < l.length) : VCells w s (o + i * 11) l[i] :=
 have g := h.c i hi
 ⟨h.lt, g 0 _ rfl, g 1 _ rfl, g 2 _ rfl, g 3 _ rfl, g 4 _ rfl, g 5 _ rfl, g 6 _ rfl, g 7 _ rfl, g 8 _ rfl, g 9 _ rfl, g 10 _ rfl⟩
theorem ShV.at {w : World} {a : Option Addr} {n : Nat} {l : List Vt} (h : ShV w a n l) (k : Nat) (hk : k < n) : ∃ s o V, a = some ⟨s, o, none⟩ ∧ l[k]? = some V ∧ VCells w s (o + k * 11) V ∧ VtIn w V := by
 rcases h with ⟨h1, _⟩ | ⟨s, o, h0, h1, h2⟩
 · omega
 · have hl : k < l.length := by omega
   exact ⟨s, o, l[k], h0, List.getElem?_eq_getElem hl, h2.at k hl, h2.ok _ (List.getElem_mem hl)⟩
theorem ShV.drop {w : World} {ad : Addr} {n : Nat} {l : List Vt} (h : ShV w (some ad) n l) (m : Nat) : ShV w (some (ad.add (m * 11))) (n - m) (l.drop m) := by
 rcases h with ⟨h, h'⟩ | ⟨s', o', h0, h1, h2⟩
 · exact .inl ⟨by omega, by rw [h']; simp⟩
 · cases h0
   refine .inr ⟨s', o' + m * 11, by rw [add_pl], by simp [h1], h2.lt, fun i hi k u hu => ?_, fun V hV => h2.ok V (List.mem_of_mem_drop hV)⟩
   have hi' : m + i < l.length := by simp at hi; omega
   rw [List.getElem_drop] at hu
   have := h2.c (m + i) hi' k u hu
   rwa [show o' + (m + i) * 11 + k = o' + m * 11 + i * 11 + k by omega] at this
theorem ShV.take {w : World} {a : Option Addr} {n : Nat} {l : List Vt} (h : ShV w a n l) (m : Nat) (hm : m ≤ n) : ShV w a m (l.take m) := by
 rcases h with ⟨h, h'⟩ | ⟨s', o', h0, h1, h2⟩
 · exact .inl ⟨by omega, by rw [h']; simp⟩
 · refine .inr ⟨s', o', h0, by simp; omega, h2.lt, fun i hi k u hu => ?_, fun V hV => h2.ok V (List.mem_of_mem_take hV)⟩
   have hi' : i < l.length := by simp at hi; omega
   rw [List.getElem_take] at hu
   exact h2.c i hi' k u hu
section
variable {H : Type} {enc : TypeId × Value → H} {w : World} {base : Nat} {held : Bool} {r : Reach} {b0 : Nat} {v : Value} {d : DataW H} {p : List MemPlace}
theorem list11 : ∀ (l : List Value), l.length = 11 → ∃ a b c d e f g i j k m, l = [a, b, c, d, e, f, g, i, j, k, m]
 | [a, b, c, d, e, f, g, i, j, k, m], _ => ⟨a, b, c, d, e, f, g, i, j, k, m, rfl⟩
theorem bit_cells {spare : Nat → Bool} {fuel : Nat} {cs : List Value} {x : DataW H × List MemPlace} (h2 : cs.length = 8) (hf : DataW.trod enc Tryz.prog w base spare held fuel 31 cs = some x) : ∃ z : Bt, cs = z.vs ∧ z.u := by
 obtain ⟨x0, x1, x2, x3, x4, x5, x6, x7, hl⟩ := list8 _ h2
 rw [hl] at hf
 obtain ⟨xs, k, hk, hxy, _, hxl, hff⟩ := DataW.trod_struct Tryz.underlying31 hf
 match xs, hxl with
 | [y0, y1, y2, y3], _ =>
  have c39 : Tryz.prog.cellsOf 29 = 2 := by kernel_rfl
  have g0 := hff 0 _ rfl
  have g1 := hff 1 _ rfl
  have g2 := hff 2 _ rfl
  have g3 := hff 3 _ rfl
  simp [c39] at g0 g1 g2 g3
  obtain ⟨r0, r1, rfl, rfl, u0, u1⟩ := arr2 Tryz.underlying29 Tryz.underlying22 (by kernel_rfl) g0
  obtain ⟨s0, s1, rfl, rfl, u2, u3⟩ := arr2 Tryz.underlying29 Tryz.underlying22 (by kernel_rfl) g1
  obtain ⟨c0, c1, rfl, rfl, u4, u5⟩ := arr2 Tryz.underlying29 Tryz.underlying22 (by kernel_rfl) g2
  obtain ⟨z0, z1, rfl, rfl, u6, u7⟩ := arr2 Tryz.underlying29 Tryz.underlying22 (by kernel_rfl) g3
  exact ⟨⟨r0, r1, s0, s1, c0, c1, z0, z1⟩, hl, u0, u1, u2, u3, u4, u5, u6, u7⟩
theorem sealeds_cells {fuel : Nat} {v0 : Value} {y : DataW H × List MemPlace} (hf : DataW.trod enc Tryz.prog w base (fun _ => true) held fuel 27 [v0] = some y) :
 ∃ a n c ps, v0 = .slice a n c ∧ ShS w a n ps ∧ (∀ q, q ∈ ps → U64 q.1 ∧ U64 q.2) ∧ (a = none → c = 0) ∧ n ≤ c := by
 rcases Deep.open_slice_pairs Tryz.underlying27 Tryz.underlying75 (by kernel_rfl) rfl rfl (by kernel_rfl) (by kernel_rfl) hf with ⟨hcs, -⟩ | ⟨a, l0, c0, m, n, V0, V1, D0, D1, P0, P1, hcs, -, hl, hm, hmm, -, hx⟩
 · simp at hcs
   exact ⟨none, 0, 0, [], hcs, ShS.nil w _, (fun q hq => by cases hq), (fun _ => rfl), Nat.le_refl _⟩
 · simp at hcs
   subst hcs
   have hmc : m = c0 := by simpa using hmm
   have each : ∀ i, i < l0 → ∃ q : Int × Int, V0 i = υ q.1 ∧ V1 i = υ q.2 ∧ U64 q.1 ∧ U64 q.2 := by
    intro i hi
    obtain ⟨-, -, h0, h1⟩ := hx i (by omega)
    obtain ⟨x, e0, -, wx⟩ := DataW.trod_int Tryz.underlying22 h0
    obtain ⟨y, e1, -, wy⟩ := DataW.trod_int Tryz.underlying22 h1
    simp at e0 e1
    exact ⟨(x, y), e0, e1, U64.wf wx, U64.wf wy⟩
   obtain ⟨q, hq⟩ := Deep.choose_lt each
   by_cases hl0 : l0 = 0
   · subst hl0
     exact ⟨_, _, _, [], rfl, ShS.nil w _, (fun q hq => by cases hq), (fun h => by cases h), hl⟩
   · obtain ⟨b, off, spot⟩ := a
     have g0 := (hx 0 (by omega)).1
     have hspot : spot = none := by simpa [Addr.add] using World.cell?_spot g0
     subst hspot
     have hcell : ∀ i, i < l0 → w.cell? ⟨b, off + i * 2, none⟩ = some (υ (q i).1) ∧ w.cell? ⟨b, off + i * 2 + 1, none⟩ = some (υ (q i).2) := by
      intro i hi
      obtain ⟨h0, h1, -, -⟩ := hx i (by omega)
      obtain ⟨e0, e1, -, -⟩ := hq i hi
      rw [e0] at h0
      rw [e1] at h1
      rw [add_pl] at h0 h1
      exact ⟨h0, by rw [Nat.add_assoc]; exact h1⟩
     have hlt : b < w.heap.size := World.block_lt_of_cell? w _ (hcell 0 (by omega)).1
     refine ⟨_, _, _, (List.range l0).map q, rfl, .inr ⟨b, off, rfl, by simp, hlt, fun i hi => ?_⟩, fun z hz => ?_, (fun h => by cases h), hl⟩
     · have hi' : i < l0 := by simpa using hi
       have e : ((List.range l0).map q).getD i (0, 0) = q i := by simp [List.getD_eq_getElem?_getD, hi']
       rw [e]; exact hcell i hi'
     · obtain ⟨i, hi, rfl⟩ := List.mem_map.1 hz
       obtain ⟨-, -, h1, h2⟩ := hq i (by simpa using hi)
       exact ⟨h1, h2⟩
theorem bits_cells {fuel : Nat} {v0 : Value} {y : DataW H × List MemPlace} (hf : DataW.trod enc Tryz.prog w base (fun _ => true) held fuel 28 [v0] = some y) :
 ∃ a n c ps, v0 = .slice a n c ∧ ShB w a n ps ∧ (∀ q, q ∈ ps → q.u) ∧ (a = none → c = 0) ∧ n ≤ c := by
 have c8 : Tryz.prog.cellsOf 31 = 8 := by kernel_rfl
 rcases Deep.open_slice Tryz.underlying28 hf with ⟨hcs, -⟩ | ⟨a, l0, c0, m, n, D, Pl, hcs, -, hl, hm, hmm, -, hx⟩
 · simp at hcs
   exact ⟨none, 0, 0, [], hcs, .inl ⟨rfl, rfl⟩, (fun q hq => by cases hq), (fun _ => rfl), Nat.le_refl _⟩
 · simp at hcs
   subst hcs
   have hmc : m = c0 := by simpa using hmm
   have each : ∀ i, i < l0 → ∃ q : Bt, (∀ k u, q.vs[k]? = some u → w.cell? (a.add (i * 8 + k)) = some u) ∧ q.u := by
    intro i hi
    obtain ⟨cs', h1, h2⟩ := hx i (by omega)
    rw [c8] at h1
    obtain ⟨_, hlen, hcell⟩ := World.cells?_some h1
    obtain ⟨z, rfl, hz⟩ := bit_cells hlen h2
    refine ⟨z, fun k u hu => ?_, hz⟩
    have hk : k < 8 := by have := (List.getElem?_eq_some_iff.1 hu).1; simpa [Bt.vs] using this
    have := hcell k hk
    rw [Deep.add_add] at this
    rw [this]; exact hu
   obtain ⟨q, hq⟩ := Deep.choose_lt each
   by_cases hl0 : l0 = 0
   · subst hl0
     exact ⟨_, _, _, [], rfl, .inl ⟨rfl, rfl⟩, (fun q hq => by cases hq), (fun h => by cases h), hl⟩
   · obtain ⟨b, off, spot⟩ := a
     have g0 := (hq 0 (by omega)).1 0 _ rfl
     have hspot : spot = none := by simpa [Addr.add] using World.cell?_spot g0
     subst hspot
     have hlt : b < w.heap.size := by have := World.block_lt_of_cell? w _ g0; simpa [add_pl] using this
     refine ⟨_, _, _, (List.range l0).map q, rfl, .inr ⟨b, off, rfl, by simp, hlt, fun i hi k u hu => ?_⟩, fun z hz => ?_, (fun h => by cases h), hl⟩
     · have hi' : i < l0 := by simpa using hi
       have e : ((List.range l0).map q).getD i Bt.zero = q i := by simp [List.getD_eq_getElem?_getD, hi']
       rw [e] at hu
       have := (hq i hi').1 k u hu
       rwa [add_pl, ← Nat.add_assoc] at this
     · obtain ⟨i, hi, rfl⟩ := List.mem_map.1 hz
       exact (hq i (by simpa using hi)).2
theorem vote_cells {fuel : Nat} {cs : List Value} {x : DataW H × List MemPlace} (h2 : cs.length = 11) (hf : DataW.trod enc Tryz.prog w base (fun _ => true) held fuel 33 cs = some x) : ∃ V : Vt, cs = V.vs ∧ VtIn w V := by
 obtain ⟨x0, x1, x2, x3, x4, x5, x6, x7, x8, x9, x10, hl⟩ := list11 _ h2
 rw [hl] at hf
 obtain ⟨xs, k, hk, hxy, _, hxl, hff⟩ := DataW.trod_struct Tryz.underlying33 hf
 match xs, hxl with
 | [y0, y1, y2, y3], _ =>
  have c8 : Tryz.prog.cellsOf 31 = 8 := by kernel_rfl
  have c1 : Tryz.prog.cellsOf 27 = 1 := by kernel_rfl
  have c2 : Tryz.prog.cellsOf 28 = 1 := by kernel_rfl
  have c3 : Tryz.prog.cellsOf 4 = 1 := by kernel_rfl
  have g0 := hff 0 _ rfl
  have g1 := hff 1 _ rfl
  have g2 := hff 2 _ rfl
  have g3 := hff 3 _ rfl
  simp [c8, c1, c2, c3] at g0 g1 g2 g3
  obtain ⟨a, n, c, bs, rfl, q1, q2, q3, -⟩ := sealeds_cells g0
  obtain ⟨b, m, d, ps, rfl, q4, q5, q6, -⟩ := bits_cells g1
  obtain ⟨one, e2, -⟩ := DataW.trod_bool Tryz.underlying4 g2
  obtain ⟨z, e3, hz⟩ := bit_cells rfl g3
  simp at e2
  subst e2
  refine ⟨⟨a, n, c, bs, b, m, d, ps, one, z⟩, ?_, q1, q2, q3, q4, q5, q6, hz⟩
  rw [hl]
  simp [Vt.vs, ← e3]
theorem votes_cells {fuel : Nat} {v0 : Value} {y : DataW H × List MemPlace} (hf : DataW.trod enc Tryz.prog w base (fun _ => true) held fuel 52 [v0] = some y) :
 ∃ a n c l, v0 = .slice a n c ∧ ShV w a n l ∧ (a = none → c = 0) ∧ n ≤ c := by
 have c11 : Tryz.prog.cellsOf 33 = 11 := by kernel_rfl
 rcases Deep.open_slice Tryz.underlying52 hf with ⟨hcs, -⟩ | ⟨a, l0, c0, m, n, D, Pl, hcs, -, hl, hm, hmm, -, hx⟩
 · simp at hcs
   exact ⟨none, 0, 0, [], hcs, ShV.nil _ _, (fun _ => rfl), Nat.le_refl _⟩
 · simp at hcs
   subst hcs
   have hmc : m = c0 := by simpa using hmm
   have each : ∀ i, i < l0 → ∃ V : Vt, (∀ k u, V.vs[k]? = some u → w.cell? (a.add (i * 11 + k)) = some u) ∧ VtIn w V := by
    intro i hi
    obtain ⟨cs', h1, h2⟩ := hx i (by omega)
    rw [c11] at h1
    obtain ⟨_, hlen, hcell⟩ := World.cells?_some h1
    obtain ⟨V, rfl, hz⟩ := vote_cells hlen h2
    refine ⟨V, fun k u hu => ?_, hz⟩
    have hk : k < 11 := by have := (List.getElem?_eq_some_iff.1 hu).1; simpa [Vt.vs, Bt.vs] using this
    have := hcell k hk
    rw [Deep.add_add] at this
    rw [this]; exact hu
   obtain ⟨q, hq⟩ := Deep.choose_lt each
   by_cases hl0 : l0 = 0
   · subst hl0
     exact ⟨_, _, _, [], rfl, ShV.nil _ _, (fun h => by cases h), hl⟩
   · obtain ⟨b, off, spot⟩ := a
     have g0 := (hq 0 (by omega)).1 0 _ rfl
     have hspot : spot = none := by simpa [Addr.add] using World.cell?_spot g0
     subst hspot
     have hlt : b < w.heap.size := by have := World.block_lt_of_cell? w _ g0; simpa [add_pl] using this
     refine ⟨_, _, _, (List.range l0).map q, rfl, .inr ⟨b, off, rfl, by simp, hlt, fun i hi k u hu => ?_, fun V hV => ?_⟩, (fun h => by cases h), hl⟩
     · have hi' : i < l0 := by simpa using hi
       have e : ((List.range l0).map q)[i] = q i := by simp
       rw [e] at hu
       have := (hq i hi').1 k u hu
       rwa [add_pl, ← Nat.add_assoc] at this
     · obtain ⟨i, hi, rfl⟩ := List.mem_map.1 hV
       exact (hq i (by simpa using hi)).2
end
structure VBox (w : World) (B : Nat) (V : Vt) : Prop where
 lt : B < w.heap.size
 c0 : w.cell? ⟨B, 0, none⟩ = some (.slice V.a V.n V.c)
 c1 : w.cell? ⟨B, 1, none⟩ = some (.slice V.b V.m V.d)
 c2 : w.cell? ⟨B, 2, none⟩ = some (.bool V.one)
 c3 : w.cell? ⟨B, 3, none⟩ = some (υ V.z.r0)
 c4 : w.cell? ⟨B, 4, none⟩ = some (υ V.z.r1)
 c5 : w.cell? ⟨B, 5, none⟩ = some (υ V.z.s0)
 c6 : w.cell? ⟨B, 6, none⟩ = some (υ V.z.s1)
 c7 : w.cell? ⟨B, 7, none⟩ = some (υ V.z.c0)
 c8 : w.cell? ⟨B, 8, none⟩ = some (υ V.z.c1)
 c9 : w.cell? ⟨B, 9, none⟩ = some (υ V.z.z0)
 c10 : w.cell? ⟨B, 10, none⟩ = some (υ V.z.z1)
 f0 : ∀ o, w.frozen? ⟨B, o, none⟩ = false
theorem VBox.at (w : World) (V : Vt) (t : TypeId) (B : Nat) (hB : B = w.heap.size) : VBox (w.alloc (.cells V.ca t)) B V := by
 subst hB
 refine ⟨by simp, ?_, ?_, ?_, ?_, ?_, ?_, ?_, ?_, ?_, ?_, ?_, fun o => ?_⟩
 all_goals first | (rw [World.cell?_alloc_new]; rfl) | (unfold World.frozen?; rw [heap_alloc_new]; simp)
theorem VBox.keep {w w' : World} {B : Nat} {V : Vt} (h : VBox w B V) (hb : Below w.heap.size w w') : VBox w' B V :=
 ⟨Nat.lt_of_lt_of_le h.lt hb.size, (hb.cell (p := ⟨B, 0, none⟩) h.lt).trans h.c0, (hb.cell (p := ⟨B, 1, none⟩) h.lt).trans h.c1, (hb.cell (p := ⟨B, 2, none⟩) h.lt).trans h.c2, (hb.cell (p := ⟨B, 3, none⟩) h.lt).trans h.c3, (hb.cell (p := ⟨B, 4, none⟩) h.lt).trans h.c4, (hb.cell (p := ⟨B, 5, none⟩) h.lt).trans h.c5, (hb.cell (p := ⟨B, 6, none⟩) h.lt).trans h.c6, (hb.cell (p := ⟨B, 7, none⟩) h.lt).trans h.c7, (hb.cell (p := ⟨B, 8, none⟩) h.lt).trans h.c8, (hb.cell (p := ⟨B, 9, none⟩) h.lt).trans h.c9, (hb.cell (p := ⟨B, 10, none⟩) h.lt).trans h.c10, fun o => (hb.frozen (p := ⟨B, o, none⟩) h.lt).trans (h.f0 o)⟩
theorem VBox.alloc {w : World} {B : Nat} {V : Vt} (h : VBox w B V) (x : Obj) : VBox (w.alloc x) B V := h.keep ((Below.refl _ _).alloc (Nat.le_refl _) x)
theorem VBox.drew {w : World} {B : Nat} {V : Vt} (h : VBox w B V) : VBox w.drew B V := h.keep (Below.refl _ _).drew
theorem VBox.keepN {w w' : World} {B n : Nat} {V : Vt} (h : VBox w B V) (hb : Below n w w') (hn : B < n) : VBox w' B V :=
 ⟨Nat.lt_of_lt_of_le h.lt hb.size, (hb.cell (p := ⟨B, 0, none⟩) hn).trans h.c0, (hb.cell (p := ⟨B, 1, none⟩) hn).trans h.c1, (hb.cell (p := ⟨B, 2, none⟩) hn).trans h.c2, (hb.cell (p := ⟨B, 3, none⟩) hn).trans h.c3, (hb.cell (p := ⟨B, 4, none⟩) hn).trans h.c4, (hb.cell (p := ⟨B, 5, none⟩) hn).trans h.c5, (hb.cell (p := ⟨B, 6, none⟩) hn).trans h.c6, (hb.cell (p := ⟨B, 7, none⟩) hn).trans h.c7, (hb.cell (p := ⟨B, 8, none⟩) hn).trans h.c8, (hb.cell (p := ⟨B, 9, none⟩) hn).trans h.c9, (hb.cell (p := ⟨B, 10, none⟩) hn).trans h.c10, fun o => (hb.frozen (p := ⟨B, o, none⟩) hn).trans (h.f0 o)⟩
open Go.ChangeShapes Go.WideShapes Go.ChangeAt Go.RowKit
theorem add_plain' (s o i : Nat) : (⟨s, o, none⟩ : Addr).add i = ⟨s, o + i, none⟩ := by unfold Addr.add; split <;> simp_all
def ShI (q : IntKind) (w : World) (a : Option Addr) (n : Nat) (xs : List Int) : Prop :=
 (n = 0 ∧ xs = []) ∨ ∃ s o, a = some ⟨s, o, none⟩ ∧ n = xs.length ∧ s < w.heap.size ∧ ∀ i, i < xs.length → w.cell? ⟨s, o + i, none⟩ = some (.int q (xs.getD i 0))
theorem ShI.len {q : IntKind} {w : World} {a : Option Addr} {n : Nat} {xs : List Int} (h : ShI q w a n xs) : n = xs.length := by
 rcases h with ⟨h1, h2⟩ | ⟨s, o, _, h1, _⟩
 · rw [h1, h2]; rfl
 · exact h1
theorem ShI.keep {q : IntKind} {w w' : World} {a : Option Addr} {n : Nat} {xs : List Int} (h : ShI q w a n xs) (hb : Below w.heap.size w w') : ShI q w' a n xs := by
 rcases h with h | ⟨s, o, h0, h1, h2, h3⟩
 · exact .inl h
 · exact .inr ⟨s, o, h0, h1, Nat.lt_of_lt_of_le h2 hb.size, fun i hi => (hb.cell (p := ⟨s, o + i, none⟩) h2).trans (h3 i hi)⟩
theorem ShI.at {q : IntKind} {w : World} {a : Option Addr} {n : Nat} {xs : List Int} (h : ShI q w a n xs) (k : Nat) (hk : k < n) : ∃ s o, a = some ⟨s, o, none⟩ ∧ s < w.heap.size ∧ w.cell? ⟨s, o + k, none⟩ = some (.int q (xs.getD k 0)) ∧ xs.getD k 0 ∈ xs := by
 rcases h with ⟨h1, _⟩ | ⟨s, o, h0, h1, h2, h3⟩
 · omega
 · refine ⟨s, o, h0, h2, h3 k (by omega), ?_⟩
   have hkl : k < xs.length := by omega
   rw [List.getD_eq_getElem?_getD, List.getElem?_eq_getElem hkl, Option.getD_some]
   exact List.getElem_mem hkl
section
variable {H : Type} {enc : TypeId × Value → H} {w : World} {base : Nat} {held : Bool} {r : Reach} {b0 : Nat} {v : Value} {d : DataW H} {p : List MemPlace}
end
theorem ShI.nil (q : IntKind) (w : World) (a : Option Addr) : ShI q w a 0 [] := .inl ⟨rfl, rfl⟩
theorem ShI.cells {q : IntKind} {w : World} {ad : Addr} {n : Nat} {xs : List Int} (h : ShI q w (some ad) n xs) : ∀ j u, (xs.map (Value.int q))[j]? = some u → w.cell? (ad.add j) = some u := by
 rcases h with ⟨_, h⟩ | ⟨s, o, h0, h1, h2, h3⟩
 · subst h; intro j u hj; simp at hj
 · cases h0
   intro j u hj
   have hl : j < xs.length := by simpa using (List.getElem?_eq_some_iff.1 hj).1
   rw [add_plain', h3 j hl]
   rw [List.getElem?_map, List.getElem?_eq_getElem hl] at hj
   rw [List.getD_eq_getElem?_getD, List.getElem?_eq_getElem hl]
   simpa using hj
theorem ShI.of_owned {q : IntKind} {w : World} {base : Nat} {e : TypeId} {v : Value} {n : Nat} {xs : List Int} (h : w.ownsRow base e 1 v n (xs.map (Value.int q))) : ∃ a c, v = .slice a n c ∧ ShI q w a n xs := by
 have hl := h.1
 rw [List.length_map, Nat.mul_one] at hl
 rcases h.2 with ⟨rfl, h0⟩ | ⟨g, cap, cur, rfl, hb, hg, _⟩
 · subst h0
   have : xs = [] := List.eq_nil_of_length_eq_zero hl
   subst this
   exact ⟨none, 0, rfl, ShI.nil _ w _⟩
 · refine ⟨_, _, rfl, .inr ⟨g, 0, rfl, hl.symm, (h.lt g rfl).2, fun i hi => ?_⟩⟩
   have hc := h.cells (g := g) rfl i (.int q (xs.getD i 0)) (by
    rw [List.getElem?_map, List.getElem?_eq_getElem hi, List.getD_eq_getElem?_getD, List.getElem?_eq_getElem hi]; rfl)
   rw [add_plain'] at hc
   exact hc
end Go.Proofs.YtlbldpkgnonbpaaGreatDoor
namespace Go.Proofs.YtlbldpkgnonbpaaGreatDoor.Sha
open Go
def U32 (x : Int) : Prop := 0 ≤ x ∧ x < 4294967296
theorem wrapM (x : Int) : IntKind.u32.wrap x = x % 4294967296 := by simp [IntKind.wrap, IntKind.bits, IntKind.signed]
def M (x : Int) : Int := x % 4294967296
def B (x : Int) : BitVec 32 := BitVec.ofInt 32 x
theorem B_toNat (v : BitVec 32) : B (v.toNat : Int) = v := by
 unfold B; rw [BitVec.ofInt_natCast]; simp
theorem toNat_lt (v : BitVec 32) : (v.toNat : Int) < 4294967296 := by have := v.isLt; omega
theorem wrap_toNat (v : BitVec 32) : IntKind.u32.wrap (v.toNat : Int) = v.toNat := by
 rw [wrapM]; have := toNat_lt v; omega
theorem xorB (x y : Int) : bits .xor .u32 x y = ((B x ^^^ B y).toNat : Int) := wrap_toNat _
theorem andB (x y : Int) : bits .and .u32 x y = ((B x &&& B y).toNat : Int) := wrap_toNat _
theorem orB (x y : Int) : bits .or .u32 x y = ((B x ||| B y).toNat : Int) := wrap_toNat _
theorem orI_comm (x y : Int) : bits .or .u32 x y = bits .or .u32 y x := by rw [orB, orB, BitVec.or_comm]
def rot (x : Int) (n : Nat) : Int := bits .or .u32 (x / 2 ^ n) (M (x * 2 ^ (32 - n)))
def sig0 (x : Int) : Int := bits .xor .u32 (bits .xor .u32 (rot x 7) (rot x 18)) (x / 8)
def sig1 (x : Int) : Int := bits .xor .u32 (bits .xor .u32 (rot x 17) (rot x 19)) (x / 1024)
def big1 (e : Int) : Int := bits .xor .u32 (bits .xor .u32 (rot e 6) (rot e 11)) (rot e 25)
def big0 (a : Int) : Int := bits .xor .u32 (bits .xor .u32 (rot a 2) (rot a 13)) (rot a 22)
def ch (e f g : Int) : Int := bits .xor .u32 g (bits .and .u32 e (bits .xor .u32 f g))
def mj (a b c : Int) : Int := bits .or .u32 (bits .and .u32 a (bits .or .u32 b c)) (bits .and .u32 b c)
theorem ch_eq (e f g : Int) : bits .or .u32 (bits .and .u32 e f) (bits .and .u32 (bits .xor .u32 (-1) e) g) = ch e f g := by
 unfold ch
 have h1 : B (-1) = BitVec.allOnes 32 := by decide
 simp only [xorB, andB, orB, B_toNat, h1]
 congr 2
 ext i hi
 simp only [B, BitVec.getElem_or, BitVec.getElem_and, BitVec.getElem_xor, BitVec.getElem_allOnes]
 generalize (BitVec.ofInt 32 e)[i] = x
 generalize (BitVec.ofInt 32 f)[i] = y
 generalize (BitVec.ofInt 32 g)[i] = z
 cases x <;> cases y <;> cases z <;> rfl
theorem mj_eq (a b c : Int) : bits .or .u32 (bits .or .u32 (bits .and .u32 a b) (bits .and .u32 a c)) (bits .and .u32 b c) = mj a b c := by
 unfold mj
 simp only [xorB, andB, orB, B_toNat]
 congr 2
 ext i hi
 simp [B]
 generalize (BitVec.ofInt 32 a)[i] = x
 generalize (BitVec.ofInt 32 b)[i] = y
 generalize (BitVec.ofInt 32 c)[i] = z
 cases x <;> cases y <;> cases z <;> rfl
def kTab : List Int := [0x428a2f98, 0x71374491, 0xb5c0fbcf, 0xe9b5dba5, 0x3956c25b, 0x59f111f1, 0x923f82a4, 0xab1c5ed5, 0xd807aa98, 0x12835b01, 0x243185be, 0x550c7dc3, 0x72be5d74, 0x80deb1fe, 0x9bdc06a7, 0xc19bf174, 0xe49b69c1, 0xefbe4786, 0x0fc19dc6, 0x240ca1cc, 0x2de92c6f, 0x4a7484aa, 0x5cb0a9dc, 0x76f988da, 0x983e5152, 0xa831c66d, 0xb00327c8, 0xbf597fc7, 0xc6e00bf3, 0xd5a79147, 0x06ca6351, 0x14292967, 0x27b70a85, 0x2e1b2138, 0x4d2c6dfc, 0x53380d13, 0x650a7354, 0x766a0abb, 0x81c2c92e, 0x92722c85, 0xa2bfe8a1, 0xa81a664b, 0xc24b8b70, 0xc76c51a3, 0xd192e819, 0xd6990624, 0xf40e3585, 0x106aa070, 0x19a4c116, 0x1e376c08, 0x2748774c, 0x34b0bcb5, 0x391c0cb3, 0x4ed8aa4a, 0x5b9cca4f, 0x682e6ff3, 0x748f82ee, 0x78a5636f, 0x84c87814, 0x8cc70208, 0x90befffa, 0xa4506ceb, 0xbef9a3f7, 0xc67178f2]
def kAt (t : Nat) : Int := kTab.getD t 0
def wordAt (p : List Int) (o : Nat) : Int := p.getD o 0 * 16777216 + p.getD (o + 1) 0 * 65536 + p.getD (o + 2) 0 * 256 + p.getD (o + 3) 0
def ws (p : List Int) (o : Nat) (t : Nat) : Int :=
 if h : t < 16 then wordAt p (o + 4 * t) else M (ws p o (t - 16) + sig0 (ws p o (t - 15)) + ws p o (t - 7) + sig1 (ws p o (t - 2)))
termination_by t
theorem ws_lo (p : List Int) (o t : Nat) (h : t < 16) : ws p o t = wordAt p (o + 4 * t) := by rw [ws, dif_pos h]
theorem ws_hi (p : List Int) (o t : Nat) (h : ¬ t < 16) : ws p o t = M (ws p o (t - 16) + sig0 (ws p o (t - 15)) + ws p o (t - 7) + sig1 (ws p o (t - 2))) := by rw [ws, dif_neg h]
structure S8 where
 a : Int
 b : Int
 c : Int
 d : Int
 e : Int
 f : Int
 g : Int
 h : Int
structure S8.Ok (s : S8) : Prop where
 a : U32 s.a
 b : U32 s.b
 c : U32 s.c
 d : U32 s.d
 e : U32 s.e
 f : U32 s.f
 g : U32 s.g
 h : U32 s.h
def xOf (s : S8) (k w : Int) : Int := M (s.h + big1 s.e + ch s.e s.f s.g + k + w)
def yOf (s : S8) : Int := M (big0 s.a + mj s.a s.b s.c)
def rnd (s : S8) (k w : Int) : S8 := ⟨M (xOf s k w + yOf s), s.a, s.b, s.c, M (s.d + xOf s k w), s.e, s.f, s.g⟩
def rnds (p : List Int) (o : Nat) (s : S8) : Nat → S8
 | 0 => s
 | t + 1 => rnd (rnds p o s t) (kAt t) (ws p o t)
def add8 (s v : S8) : S8 := ⟨M (s.a + v.a), M (s.b + v.b), M (s.c + v.c), M (s.d + v.d), M (s.e + v.e), M (s.f + v.f), M (s.g + v.g), M (s.h + v.h)⟩
def stepS (p : List Int) (o : Nat) (s : S8) : S8 := add8 s (rnds p o s 64)
def firstS : S8 := ⟨0x6a09e667, 0xbb67ae85, 0x3c6ef372, 0xa54ff53a, 0x510e527f, 0x9b05688c, 0x1f83d9ab, 0x5be0cd19⟩
def blocks (p : List Int) : Nat → S8
 | 0 => firstS
 | n + 1 => stepS p (64 * n) (blocks p n)
def zerosN (n : Nat) : Nat := (64 - (n + 9) % 64) % 64
def be8 (n : Int) : List Int := (List.range 8).map fun i => n / 2 ^ (56 - 8 * i) % 256
def padS (b : List Int) : List Int := b ++ (128 :: (List.replicate (zerosN b.length) 0 ++ be8 (b.length * 8)))
theorem be8_len (n : Int) : (be8 n).length = 8 := by simp [be8]
theorem padS_len (b : List Int) : (padS b).length = b.length + 9 + zerosN b.length := by simp [padS, be8_len]; omega
theorem padS_mod (b : List Int) : (padS b).length % 64 = 0 := by rw [padS_len]; unfold zerosN; omega
def S8.l (s : S8) : List Int := [s.a, s.b, s.c, s.d, s.e, s.f, s.g, s.h]
def outOf (s : S8) : List Int := s.l.flatMap fun x => [x / 16777216 % 256, x / 65536 % 256, x / 256 % 256, x % 256]
theorem outOf_len (s : S8) : (outOf s).length = 32 := rfl
def shaS (b : List Int) : List Int := outOf (blocks (padS b) ((padS b).length / 64))
theorem shaS_len (b : List Int) : (shaS b).length = 32 := rfl
theorem shaS_bytes (b : List Int) : ∀ x, x ∈ shaS b → 0 ≤ x ∧ x < 256 := by
 intro x hx
 obtain ⟨y, -, hy⟩ := List.mem_flatMap.1 hx
 simp at hy
 omega
end Go.Proofs.YtlbldpkgnonbpaaGreatDoor.Sha
namespace Go.Proofs.YtlbldpkgnonbpaaGreatDoor
open Go
section
variable {P : Program} {ops : Array Oper} {Q : Exit → Act → World → Prop} {md : Region.Mode} {b : Nat} {S : World → Prop}
def wpAnyB (P : Program) (md : Region.Mode) (ops : Array Oper) (Q : Exit → Act → World → Prop) (b : Nat) (S : World → Prop) : Nat → Array Bool → Act → World → Prop
 | 0, listed, a, w => Region.ready md ops listed = [] ∧ Q .normal a w
 | fuel + 1, listed, a, w =>
  (Region.ready md ops listed = [] → Q .normal a w) ∧
  ∀ i ∈ Region.ready md ops listed, wpOp P ops Q i (fun a' w' => ((listed.setIfInBounds i true).getD b true = false → S w') ∧ wpAnyB P md ops Q b S fuel (listed.setIfInBounds i true) a' w') a w
theorem wpAny_of_stage : ∀ (fuel : Nat) (listed : Array Bool) (a : Act) (w : World), wpAnyB P md ops Q b S fuel listed a w → wpAny P md ops Q fuel listed a w
 | 0, _, _, _, h => h
 | fuel + 1, _, _, _, h => ⟨h.1, fun i hi => wpOp_mono (fun a' w' h' => wpAny_of_stage fuel _ a' w' h'.2) (h.2 i hi)⟩
theorem listed_not {i : Nat} {listed : Array Bool} {oj : Oper} (hr : listed.getD i true = false) (hall : ∀ e ∈ oj.after, Region.binds md e = true → listed.getD e.on false = true) : ∀ e ∈ oj.after, Region.binds md e = true → e.on ≠ i := fun e he hb heq => by
 have h1 := hall e he hb
 rw [heq] at h1
 rcases Nat.lt_or_ge i listed.size with h' | h'
 · simp [h'] at hr h1; rw [hr] at h1; cases h1
 · simp [Array.getElem?_eq_none h'] at h1
theorem wpAnyB_first {i : Nat} {oi : Oper} {v : Value} (hi : ops[i]? = some oi) (hsel : ∀ (j : Nat) (o : Oper) cs b, ops[j]? = some o → o.op ≠ .select cs b)
 (hQ : ∀ c a w, Q (.panic c) (a.put oi.dst v) w → Q (.panic c) a w) (T : List Nat) (hbT : b ∈ T) (hiT : i ∉ T) (hw : ∀ t, t ∈ T → ∃ ob, ops[t]? = some ob ∧ ∃ e, e ∈ ob.after ∧ Region.binds md e = true ∧ (e.on = i ∨ e.on ∈ T)) :
 ∀ (fuel : Nat) (listed : Array Bool) (a : Act) (w : World),
  (∀ j oj, ops[j]? = some oj → j ≠ i → listed.getD j true = false → (∀ e ∈ oj.after, Region.binds md e = true → e.on ≠ i) → oi.apart ops oj = true) →
  i ∈ Region.ready md ops listed → (∀ t, t ∈ T → listed.getD t true = false) → YieldsIf P ops S oi v a → S w →
  wpAnyB P md ops Q b S fuel (listed.setIfInBounds i true) (a.put oi.dst v) w → wpAnyB P md ops Q b S (fuel + 1) listed a w := by
 intro fuel
 induction fuel with
 | zero =>
  intro listed a w _ hr _ hy hS H
  refine ⟨fun h => (by rw [h] at hr; cases hr), fun j hj => ?_⟩
  by_cases hji : j = i
  · subst hji; exact hy.wpOp hi hS ⟨fun _ => hS, H⟩
  · have := ready_mono hj hji
    rw [H.1] at this
    cases this
 | succ fuel ih =>
  intro listed a w hfree hr hb hy hS H
  refine ⟨fun h => (by rw [h] at hr; cases hr), fun j hj => ?_⟩
  by_cases hji : j = i
  · subst hji; exact hy.wpOp hi hS ⟨fun _ => hS, H⟩
  · have h1 := H.2 j (ready_mono hj hji)
    obtain ⟨hjun, oj, hoj, hall⟩ := mem_ready.1 hj
    have hnot : ∀ e ∈ oj.after, Region.binds md e = true → e.on ≠ i := listed_not (mem_ready.1 hr).1 hall
    have hjT : j ∉ T := fun hjT => by
     obtain ⟨ob, hob, e, he, hbi, hon⟩ := hw j hjT
     rw [hoj] at hob
     cases hob
     rcases hon with hon | hon
     · exact hnot e he hbi hon
     · exact listed_not (hb e.on hon) hall e he hbi rfl
    have hjb : j ≠ b := fun h => hjT (h ▸ hbT)
    have hib : i ≠ b := fun h => hiT (h ▸ hbT)
    have h2 := wpOp_putIf hoj (hfree j oj hoj hji hjun hnot) (fun cs b => hsel i oi cs b hi) (fun cs b => hsel j oj cs b hoj) hQ hy h1
    have hfree' : ∀ k ok, ops[k]? = some ok → k ≠ i → (listed.setIfInBounds j true).getD k true = false →
     (∀ e ∈ ok.after, Region.binds md e = true → e.on ≠ i) → oi.apart ops ok = true := fun k ok hk hki hun hno => by
     refine hfree k ok hk hki ?_ hno
     by_cases hjk : j = k
     · subst hjk; exact hjun
     · rw [getD_set_ne true hjk] at hun; exact hun
    have hb1 : ((listed.setIfInBounds i true).setIfInBounds j true).getD b true = false := by
     rw [getD_set_ne true hjb, getD_set_ne true hib]; exact hb b hbT
    refine wpOp_mono (fun a' w' h3 => ⟨fun _ => h3.2.1 hb1, ih (listed.setIfInBounds j true) a' w' hfree' (ready_mono hr (Ne.symm hji)) (fun t ht => by rw [getD_set_ne true (fun h => hjT (by rw [h]; exact ht))]; exact hb t ht) h3.1 (h3.2.1 hb1) ?_⟩) h2
    rw [Array.setIfInBounds_comm _ _ hji]
    exact h3.2.2
theorem wpAnyB_firstP {i : Nat} {oi : Oper} {v : Value} (hi : ops[i]? = some oi) (hsel : ∀ (j : Nat) (o : Oper) cs b, ops[j]? = some o → o.op ≠ .select cs b)
 (hQ : ∀ c a w, Q (.panic c) (a.put oi.dst v) w → Q (.panic c) a w) (hib : i ≠ b) :
 ∀ (fuel : Nat) (listed : Array Bool) (a : Act) (w : World),
  (∀ j oj, ops[j]? = some oj → j ≠ i → listed.getD j true = false → (∀ e ∈ oj.after, Region.binds md e = true → e.on ≠ i) → oi.apart ops oj = true) →
  i ∈ Region.ready md ops listed → Yields P ops oi v a → (listed.getD b true = false → S w) →
  wpAnyB P md ops Q b S fuel (listed.setIfInBounds i true) (a.put oi.dst v) w → wpAnyB P md ops Q b S (fuel + 1) listed a w := by
 intro fuel
 induction fuel with
 | zero =>
  intro listed a w _ hr hy hS H
  refine ⟨fun h => (by rw [h] at hr; cases hr), fun j hj => ?_⟩
  by_cases hji : j = i
  · subst hji; exact hy.wpOp hi ⟨fun h => hS (by rw [getD_set_ne true hib] at h; exact h), H⟩
  · have := ready_mono hj hji
    rw [H.1] at this
    cases this
 | succ fuel ih =>
  intro listed a w hfree hr hy hS H
  refine ⟨fun h => (by rw [h] at hr; cases hr), fun j hj => ?_⟩
  by_cases hji : j = i
  · subst hji; exact hy.wpOp hi ⟨fun h => hS (by rw [getD_set_ne true hib] at h; exact h), H⟩
  · have h1 := H.2 j (ready_mono hj hji)
    obtain ⟨hjun, oj, hoj, hall⟩ := mem_ready.1 hj
    have hnot : ∀ e ∈ oj.after, Region.binds md e = true → e.on ≠ i := listed_not (mem_ready.1 hr).1 hall
    have h2 := wpOp_put hoj (hfree j oj hoj hji hjun hnot) (fun cs b => hsel i oi cs b hi) (fun cs b => hsel j oj cs b hoj) hQ hy h1
    have hfree' : ∀ k ok, ops[k]? = some ok → k ≠ i → (listed.setIfInBounds j true).getD k true = false →
     (∀ e ∈ ok.after, Region.binds md e = true → e.on ≠ i) → oi.apart ops ok = true := fun k ok hk hki hun hno => by
     refine hfree k ok hk hki ?_ hno
     by_cases hjk : j = k
     · subst hjk; exact hjun
     · rw [getD_set_ne true hjk] at hun; exact hun
    have hs3 : ∀ w', (((listed.setIfInBounds i true).setIfInBounds j true).getD b true = false → S w') → (listed.setIfInBounds j true).getD b true = false → S w' := fun w' h h' => h (by
     rw [Array.setIfInBounds_comm _ _ (Ne.symm hji), getD_set_ne true hib]; exact h')
    refine wpOp_mono (fun a' w' h3 => ⟨hs3 w' h3.2.1, ih (listed.setIfInBounds j true) a' w' hfree' (ready_mono hr (Ne.symm hji)) h3.1 (hs3 w' h3.2.1) ?_⟩) h2
    rw [Array.setIfInBounds_comm _ _ hji]
    exact h3.2.2
def waitsAll (md : Region.Mode) (ops : Array Oper) (listed : Array Bool) (T : List Nat) (b i : Nat) : Bool :=
 T.contains b && !T.contains i && T.all fun t => !listed.getD t true && match ops[t]? with
  | none => false
  | some ob => ob.after.any fun e => Region.binds md e && (e.on == i || T.contains e.on)
theorem waitsAll_spec {listed : Array Bool} {T : List Nat} {i : Nat} (h : waitsAll md ops listed T b i = true) : b ∈ T ∧ i ∉ T ∧ (∀ t, t ∈ T → listed.getD t true = false) ∧
 ∀ t, t ∈ T → ∃ ob, ops[t]? = some ob ∧ ∃ e, e ∈ ob.after ∧ Region.binds md e = true ∧ (e.on = i ∨ e.on ∈ T) := by
 unfold waitsAll at h
 simp only [Bool.and_eq_true, Bool.not_eq_true', List.all_eq_true] at h
 obtain ⟨⟨h1, h2⟩, h3⟩ := h
 refine ⟨by simpa using h1, by simpa using h2, fun t ht => (h3 t ht).1, fun t ht => ?_⟩
 have h4 := (h3 t ht).2
 cases hb : ops[t]? with
 | none => simp [hb] at h4
 | some ob =>
  simp only [hb] at h4
  obtain ⟨e, he, hx⟩ := Array.any_eq_true'.1 h4
  simp only [Bool.and_eq_true, Bool.or_eq_true, beq_iff_eq] at hx
  exact ⟨ob, rfl, e, he, hx.1, hx.2.imp id fun h => by simpa using h⟩
def bareOp (dst : Option Tmp) (op : Op) (ty : TypeId) : Oper := { dst, op, type := ty, pos := "", after := #[], guard := none }
def isBare (ops : Array Oper) (i : Nat) (dst : Option Tmp) (op : Op) (ty : TypeId) : Prop := ∃ o, ops[i]? = some o ∧ o.dst = dst ∧ o.op = op ∧ o.type = ty ∧ o.guard = none
theorem exec_bare {o : Oper} {dst : Option Tmp} {op : Op} {ty : TypeId} (h : o.op = op) (h' : o.type = ty) (ρ : Operand → Value) : execOp ρ o = execOp ρ (bareOp dst op ty) := by
 subst h h'
 obtain ⟨d, o, t, p, af, g⟩ := o
 cases o <;> rfl
theorem wpAnyB_take {i : Nat} (dst : Option Tmp) (op : Op) (ty : TypeId) {v : Value} {fuel : Nat} {listed : Array Bool} {a : Act} {w : World} (hi : isBare ops i dst op ty)
 (hs : Region.noSelect ops = true) (hf : Region.free md ops listed i = true) (hr : (Region.ready md ops listed).contains i = true)
 (T : List Nat) (hwf : waitsAll md ops listed T b i = true)
 (hQ : ∀ c a w, Q (.panic c) (a.put dst v) w → Q (.panic c) a w) (hS : S w) (hy : ∀ w, S w → (execOp a.eval (bareOp dst op ty)).run P w = .ok (.value v) w)
 (h : wpAnyB P md ops Q b S fuel (listed.setIfInBounds i true) (a.put dst v) w) : wpAnyB P md ops Q b S (fuel + 1) listed a w := by
 obtain ⟨o, ho, rfl, h1, h2, h3⟩ := hi
 exact wpAnyB_first ho (Region.noSelect_spec hs) hQ T (waitsAll_spec hwf).1 (waitsAll_spec hwf).2.1 (waitsAll_spec hwf).2.2.2 fuel listed a w (Region.free_spec ho hf) (by simpa using hr) (waitsAll_spec hwf).2.2.1
  (.inl ⟨by simp [Region.wanted, h3], fun w hw => by rw [exec_bare h1 h2]; exact hy w hw⟩) hS h
theorem tkL {i : Nat} (dst : Option Tmp) (op : Op) (ty : TypeId) (T : List Nat) {v : Value} {fuel : Nat} {listed : Array Bool} {a : Act} {w : World} (hS : S w) (hy : ∀ w, S w → (execOp a.eval (bareOp dst op ty)).run P w = .ok (.value v) w)
 (h : wpAnyB P md ops Q b S fuel (listed.setIfInBounds i true) (a.put dst v) w) (hi : isBare ops i dst op ty := by exact ⟨_, rfl, rfl, rfl, rfl, rfl⟩) (hs : Region.noSelect ops = true := by kernel_rfl) (hf : Region.free md ops listed i = true := by kernel_rfl) (hr : (Region.ready md ops listed).contains i = true := by kernel_rfl)
 (hwf : waitsAll md ops listed T b i = true := by kernel_rfl) (hQ : ∀ c a w, Q (.panic c) (a.put dst v) w → Q (.panic c) a w := by exact fun _ _ _ h => h) : wpAnyB P md ops Q b S (fuel + 1) listed a w := wpAnyB_take dst op ty hi hs hf hr T hwf hQ hS hy h
theorem tk8 (i : Nat) (dst : Option Tmp) (op : Op) (ty : TypeId) (T : List Nat) {v : Value} {fuel : Nat} {listed : Array Bool} {a : Act} {w : World} (h : wpAnyB P md ops Q b S fuel (listed.setIfInBounds i true) (a.put dst v) w) (hS : S w := by exact hS) (hy : ∀ w, S w → (execOp a.eval (bareOp dst op ty)).run P w = .ok (.value v) w := by (intro w' hSw; obtain ⟨⟨s0, s1, s2⟩, ⟨s3, s4⟩, ⟨s5, s6, s7, s8, s9, sa, sb, sc⟩⟩ := hSw; unfold bareOp; go_simp; try with_reducible rfl))
 (hi : isBare ops i dst op ty := by exact ⟨_, rfl, rfl, rfl, rfl, rfl⟩) (hs : Region.noSelect ops = true := by kernel_rfl) (hf : Region.free md ops listed i = true := by kernel_rfl) (hr : (Region.ready md ops listed).contains i = true := by kernel_rfl)
 (hwf : waitsAll md ops listed T b i = true := by kernel_rfl) (hQ : ∀ c a w, Q (.panic c) (a.put dst v) w → Q (.panic c) a w := by exact fun _ _ _ h => h) : wpAnyB P md ops Q b S (fuel + 1) listed a w := wpAnyB_take dst op ty hi hs hf hr T hwf hQ hS hy h
theorem lt8 {p : Prop} {x : Bool} (hx : x = true := by kernel_rfl) : x = false → p := fun h => absurd (h.symm.trans hx) (by decide)
theorem wpAnyB_takeP {i : Nat} (dst : Option Tmp) (op : Op) (ty : TypeId) {v : Value} {fuel : Nat} {listed : Array Bool} {a : Act} {w : World} (hi : isBare ops i dst op ty)
 (hs : Region.noSelect ops = true) (hf : Region.free md ops listed i = true) (hr : (Region.ready md ops listed).contains i = true)
 (hib : (i == b) = false)
 (hQ : ∀ c a w, Q (.panic c) (a.put dst v) w → Q (.panic c) a w) (hS : listed.getD b true = false → S w) (hy : ∀ w, (execOp a.eval (bareOp dst op ty)).run P w = .ok (.value v) w)
 (h : wpAnyB P md ops Q b S fuel (listed.setIfInBounds i true) (a.put dst v) w) : wpAnyB P md ops Q b S (fuel + 1) listed a w := by
 obtain ⟨o, ho, rfl, h1, h2, h3⟩ := hi
 exact wpAnyB_firstP ho (Region.noSelect_spec hs) hQ (by simpa using hib) fuel listed a w (Region.free_spec ho hf) (by simpa using hr)
  (.inl ⟨by simp [Region.wanted, h3], fun w => by rw [exec_bare h1 h2]; exact hy w⟩) hS h
theorem tkP {i : Nat} (dst : Option Tmp) (op : Op) (ty : TypeId) {v : Value} {fuel : Nat} {listed : Array Bool} {a : Act} {w : World} (hS : listed.getD b true = false → S w)
 (h : wpAnyB P md ops Q b S fuel (listed.setIfInBounds i true) (a.put dst v) w) (hy : ∀ w, (execOp a.eval (bareOp dst op ty)).run P w = .ok (.value v) w := by (intro w; unfold bareOp; go_simp; try with_reducible rfl)) (hi : isBare ops i dst op ty := by exact ⟨_, rfl, rfl, rfl, rfl, rfl⟩) (hs : Region.noSelect ops = true := by kernel_rfl) (hf : Region.free md ops listed i = true := by kernel_rfl) (hr : (Region.ready md ops listed).contains i = true := by kernel_rfl)
 (hib : (i == b) = false := by kernel_rfl) (hQ : ∀ c a w, Q (.panic c) (a.put dst v) w → Q (.panic c) a w := by exact fun _ _ _ h => h) : wpAnyB P md ops Q b S (fuel + 1) listed a w := wpAnyB_takeP dst op ty hi hs hf hr hib hQ hS hy h
theorem tkQ (i : Nat) (dst : Option Tmp) (op : Op) (ty : TypeId) {v : Value} {fuel : Nat} {listed : Array Bool} {a : Act} {w : World} (h : wpAnyB P md ops Q b S fuel (listed.setIfInBounds i true) (a.put dst v) w) (hS : listed.getD b true = false → S w := by exact fun _ => hS)
 (hy : ∀ w, (execOp a.eval (bareOp dst op ty)).run P w = .ok (.value v) w := by (intro w; unfold bareOp; go_simp; try with_reducible rfl)) (hi : isBare ops i dst op ty := by exact ⟨_, rfl, rfl, rfl, rfl, rfl⟩) (hs : Region.noSelect ops = true := by kernel_rfl) (hf : Region.free md ops listed i = true := by kernel_rfl) (hr : (Region.ready md ops listed).contains i = true := by kernel_rfl)
 (hib : (i == b) = false := by kernel_rfl) (hQ : ∀ c a w, Q (.panic c) (a.put dst v) w → Q (.panic c) a w := by exact fun _ _ _ h => h) : wpAnyB P md ops Q b S (fuel + 1) listed a w := wpAnyB_takeP dst op ty hi hs hf hr hib hQ hS hy h
theorem wpAnyB_only {i : Nat} (dst : Option Tmp) (op : Op) (ty : TypeId) {fuel : Nat} {listed : Array Bool} {a : Act} {w : World} (hi : isBare ops i dst op ty) (hr : Region.ready md ops listed = [i])
 (h : ∀ K : Act → World → Prop, RowKit.Hid (∀ a w, ((listed.setIfInBounds i true).getD b true = false → S w) → wpAnyB P md ops Q b S fuel (listed.setIfInBounds i true) a w → K a w) →
   Oper.wp P (bareOp dst op ty) a w K Q) :
 wpAnyB P md ops Q b S (fuel + 1) listed a w := by
 obtain ⟨o, ho, rfl, h1, h2, h3⟩ := hi
 refine ⟨fun h0 => (by rw [hr] at h0; cases h0), fun j hj => ?_⟩
 rw [hr] at hj
 rcases List.mem_singleton.1 hj with rfl
 refine wpOp_step ho (fun K hK => ?_)
 rw [if_pos (by simp [Region.wanted, h3])]
 have h4 := h K (Lh fun a w hS hW => hK a w ⟨hS, hW⟩)
 unfold Oper.wp at h4 ⊢
 rw [exec_bare (dst := o.dst) h1 h2]
 exact h4
theorem onl {i : Nat} (dst : Option Tmp) (op : Op) (ty : TypeId) {fuel : Nat} {listed : Array Bool} {a : Act} {w : World}
 (h : ∀ K : Act → World → Prop, RowKit.Hid (∀ a w, ((listed.setIfInBounds i true).getD b true = false → S w) → wpAnyB P md ops Q b S fuel (listed.setIfInBounds i true) a w → K a w) →
   Oper.wp P (bareOp dst op ty) a w K Q) (hi : isBare ops i dst op ty := by exact ⟨_, rfl, rfl, rfl, rfl, rfl⟩) (hr : Region.ready md ops listed = [i] := by kernel_rfl) :
 wpAnyB P md ops Q b S (fuel + 1) listed a w := wpAnyB_only dst op ty hi hr h
theorem wpAnyB_done {listed : Array Bool} {a : Act} {w : World} (hr : Region.ready md ops listed = []) (h : Q .normal a w) :
 ∀ fuel, wpAnyB P md ops Q b S fuel listed a w
 | 0 => ⟨hr, h⟩
 | _ + 1 => ⟨fun _ => h, by rw [hr]; simp⟩
theorem wp_region_stage {id : Nat} {a : Act} {w : World} (b : Nat) (S : World → Prop) (hm : P.follows .mixedOrders = true)
 (h : wpAnyB P .any ops Q b S ops.size (Array.replicate ops.size false) a w.drew) : (Code.region id ops true).wp P Q a w :=
 wp_region_any hm (wpAny_of_stage _ _ _ _ h)
end
end Go.Proofs.YtlbldpkgnonbpaaGreatDoor
