/- Folded: OpenS, ListS, OpenL, OpenP, Vt. -/
import Derived.Test.YtlbldpkgnonbpaaDoorOpen
import Derived.Test.YtlbldpkgnonbpaaDoorPrs
import Derived.Laws.AppendOwn
import Derived.Laws.AppendOwnNone
import Derived.WalkKit
import Derived.Deep.SlicePairs
import Derived.ChangeSlices
import Derived.OpenShut
import Derived.Deep.Slices
/- How a ciphertext among the arguments is opened. -/
namespace Go.Proofs.YtlbldpkgnonbpaaDoor
open Go.ChangeShapes Go.WideShapes Go.ChangeAt Go.RowKit
section
variable {H : Type} {enc : TypeId × Value → H} {w : World} {base : Nat} {spare : Nat → Bool} {held : Bool} {r : Reach} {b0 : Nat} {v : Value} {d : DataW H} {p : List MemPlace}
set_option maxRecDepth 100000 in
theorem open_sealed (hv : Value.okWide Tryd.prog w r b0 78 v) (h : DataW.Trod enc Tryd.prog w base spare held 78 v d p) :
    ∃ a b : Int, v = .agg #[.int .u64 a, .int .u64 b] ∧ U64 a ∧ U64 b := by
  obtain ⟨c0, c1, y0, y1, m, rfl, rfl, rfl, hy0, hy1⟩ := Joins.open_agg2 Tryd.underlying78 (by kernel_rfl) (by kernel_rfl) hv h
  obtain ⟨a, e0, rfl, wa⟩ := DataW.trod_int Tryd.underlying24 hy0
  obtain ⟨b, e1, rfl, wb⟩ := DataW.trod_int Tryd.underlying24 hy1
  simp at e0 e1
  subst e0 e1
  exact ⟨a, b, rfl, U64.wf wa, U64.wf wb⟩
end
end Go.Proofs.YtlbldpkgnonbpaaDoor
/- Slices of ciphertexts: how they lie, and the copies and comparisons of the reference. -/
namespace Go.Proofs.YtlbldpkgnonbpaaDoor
open Go.RowKit Num
set_option linter.unusedSimpArgs false
set_option linter.unusedVariables false

theorem add_pl (s o i : Nat) : (⟨s, o, none⟩ : Addr).add i = ⟨s, o + i, none⟩ := by unfold Addr.add; split <;> simp_all
/-- A slice of ciphertexts: nil, or a row of pairs of cells. -/
def ShS (w : World) (a : Option Addr) (n : Nat) (ps : List (Int × Int)) : Prop :=
  (n = 0 ∧ ps = []) ∨ ∃ s o, a = some ⟨s, o, none⟩ ∧ n = ps.length ∧ s < w.heap.size ∧ ∀ i, i < ps.length → w.cell? ⟨s, o + i * 2, none⟩ = some (.int .u64 (ps.getD i (0, 0)).1) ∧ w.cell? ⟨s, o + i * 2 + 1, none⟩ = some (.int .u64 (ps.getD i (0, 0)).2)
theorem ShS.len {w : World} {a : Option Addr} {n : Nat} {ps : List (Int × Int)} (h : ShS w a n ps) : n = ps.length := by
  rcases h with ⟨h1, h2⟩ | ⟨s, o, _, h1, _⟩
  · rw [h1, h2]; rfl
  · exact h1
theorem ShS.keep {w w' : World} {a : Option Addr} {n : Nat} {ps : List (Int × Int)} (h : ShS w a n ps) (hb : Below w.heap.size w w') : ShS w' a n ps := by
  rcases h with h | ⟨s, o, h0, h1, h2, h3⟩
  · exact .inl h
  · exact .inr ⟨s, o, h0, h1, Nat.lt_of_lt_of_le h2 hb.size, fun i hi => ⟨(hb.cell (p := ⟨s, o + i * 2, none⟩) h2).trans (h3 i hi).1, (hb.cell (p := ⟨s, o + i * 2 + 1, none⟩) h2).trans (h3 i hi).2⟩⟩
theorem ShS.drew {w : World} {a : Option Addr} {n : Nat} {ps : List (Int × Int)} (h : ShS w a n ps) : ShS w.drew a n ps := h.keep (Below.refl _ _).drew
theorem ShS.alloc {w : World} {a : Option Addr} {n : Nat} {ps : List (Int × Int)} (h : ShS w a n ps) (x : Obj) : ShS (w.alloc x) a n ps := h.keep ((Below.refl _ _).alloc (Nat.le_refl _) x)
theorem ShS.nil (w : World) (a : Option Addr) : ShS w a 0 [] := .inl ⟨rfl, rfl⟩
/-- One element. -/
theorem ShS.at {w : World} {a : Option Addr} {n : Nat} {ps : List (Int × Int)} (h : ShS w a n ps) (k : Nat) (hk : k < n) : ∃ s o, a = some ⟨s, o, none⟩ ∧ s < w.heap.size ∧ w.cell? ⟨s, o + k * 2, none⟩ = some (.int .u64 (ps.getD k (0, 0)).1) ∧ w.cell? ⟨s, o + k * 2 + 1, none⟩ = some (.int .u64 (ps.getD k (0, 0)).2) := by
  rcases h with ⟨h1, _⟩ | ⟨s, o, h0, h1, h2, h3⟩
  · omega
  · exact ⟨s, o, h0, h2, h3 k (by omega)⟩
/-- The part of a slice from m on, and the part ahead of m. -/
theorem ShS.drop {w : World} {ad : Addr} {n : Nat} {ps : List (Int × Int)} (h : ShS w (some ad) n ps) (m : Nat) : ShS w (some (ad.add (m * 2))) (n - m) (ps.drop m) := by
  rcases h with ⟨h, h'⟩ | ⟨s', o', h0, h1, h2, h3⟩
  · exact .inl ⟨by omega, by rw [h']; simp⟩
  · cases h0
    refine .inr ⟨s', o' + m * 2, by rw [add_pl], by simp [h1], h2, fun i hi => ?_⟩
    have hi' : m + i < ps.length := by simp at hi; omega
    have := h3 (m + i) hi'
    rw [show o' + (m + i) * 2 = o' + m * 2 + i * 2 by omega] at this
    have e : (ps.drop m).getD i (0, 0) = ps.getD (m + i) (0, 0) := by simp [List.getD_eq_getElem?_getD]
    rw [e]; exact this
theorem ShS.take {w : World} {a : Option Addr} {n : Nat} {ps : List (Int × Int)} (h : ShS w a n ps) (m : Nat) (hm : m ≤ n) : ShS w a m (ps.take m) := by
  rcases h with ⟨h, h'⟩ | ⟨s', o', h0, h1, h2, h3⟩
  · exact .inl ⟨by omega, by rw [h']; simp⟩
  · refine .inr ⟨s', o', h0, by simp; omega, h2, fun i hi => ?_⟩
    have hi' : i < m ∧ i < ps.length := by simp at hi; omega
    have e : (ps.take m).getD i (0, 0) = ps.getD i (0, 0) := by simp [List.getD_eq_getElem?_getD, List.getElem?_take, hi'.1]
    rw [e]; exact h3 i hi'.2

/-- The cells of a list of pairs, one behind the other. -/
def flatS : List (Int × Int) → List Value
  | [] => []
  | p :: ps => .int .u64 p.1 :: .int .u64 p.2 :: flatS ps
theorem flatS_length : ∀ ps : List (Int × Int), (flatS ps).length = ps.length * 2
  | [] => rfl
  | _ :: ps => by simp [flatS, flatS_length ps]; omega
theorem flatS_append : ∀ ps qs : List (Int × Int), flatS (ps ++ qs) = flatS ps ++ flatS qs
  | [], _ => rfl
  | _ :: ps, qs => by simp [flatS, flatS_append ps qs]
theorem flatS_at : ∀ (ps : List (Int × Int)) (i : Nat), i < ps.length → (flatS ps)[i * 2]? = some (.int .u64 (ps.getD i (0, 0)).1) ∧ (flatS ps)[i * 2 + 1]? = some (.int .u64 (ps.getD i (0, 0)).2)
  | [], i, h => by simp at h
  | p :: ps, 0, _ => by simp [flatS]
  | p :: ps, i + 1, h => by
    have := flatS_at ps i (by simpa using h)
    rw [show (i + 1) * 2 = i * 2 + 2 by omega]
    simpa [flatS] using this
theorem flatS_one : ∀ (ps : List (Int × Int)) u, u ∈ flatS ps → u.oneCell' = true
  | [], u, h => by simp [flatS] at h
  | p :: ps, u, h => by
    simp only [flatS, List.mem_cons] at h
    rcases h with rfl | rfl | h
    · rfl
    · rfl
    · exact flatS_one ps u h
/-- The cells of a slice, as append wants them. -/
theorem ShS.cells {w : World} {ad : Addr} {n : Nat} {ps : List (Int × Int)} (h : ShS w (some ad) n ps) : ∀ j u, (flatS ps)[j]? = some u → w.cell? (ad.add j) = some u := by
  rcases h with ⟨_, h⟩ | ⟨s, o, h0, h1, h2, h3⟩
  · subst h; intro j u hj; simp [flatS] at hj
  · cases h0
    intro j u hj
    have hlt : j < ps.length * 2 := by
      rw [← flatS_length ps]
      exact (List.getElem?_eq_some_iff.1 hj).1
    obtain ⟨i, hi | hi⟩ : ∃ i, j = i * 2 ∨ j = i * 2 + 1 := ⟨j / 2, by omega⟩
    · subst hi
      rw [(flatS_at ps i (by omega)).1] at hj
      cases hj
      rw [add_pl]
      exact (h3 i (by omega)).1
    · subst hi
      rw [(flatS_at ps i (by omega)).2] at hj
      cases hj
      have := (h3 i (by omega)).2
      rw [show o + i * 2 + 1 = o + (i * 2 + 1) by omega] at this
      rw [add_pl]
      exact this
/-- An owned row of pairs is such a slice. -/
theorem ShS.of_owned {w : World} {base : Nat} {e : TypeId} {v : Value} {n : Nat} {ps : List (Int × Int)} (h : w.ownsRow base e 2 v n (flatS ps)) : ∃ a c, v = .slice a n c ∧ ShS w a n ps := by
  have hl := h.1
  rw [flatS_length] at hl
  rcases h.2 with ⟨rfl, h0⟩ | ⟨g, cap, cur, rfl, hb, hg, _⟩
  · subst h0
    have : ps = [] := List.eq_nil_of_length_eq_zero (by omega)
    subst this
    exact ⟨none, 0, rfl, ShS.nil w _⟩
  · refine ⟨_, _, rfl, .inr ⟨g, 0, rfl, by omega, ?_, fun i hi => ?_⟩⟩
    · have := h.lt g rfl
      exact this.2
    · have hc := h.cells (g := g) rfl
      have h1 := flatS_at ps i hi
      refine ⟨?_, ?_⟩
      · have := hc _ _ h1.1
        rwa [add_pl] at this
      · have := hc _ _ h1.2
        rw [add_pl] at this
        rwa [Nat.add_assoc]



end Go.Proofs.YtlbldpkgnonbpaaDoor
/- How slices among the arguments are opened: ciphertexts, numbers, bytes. -/
namespace Go.Proofs.YtlbldpkgnonbpaaDoor
open Go.ChangeShapes Go.WideShapes Go.ChangeAt Go.RowKit
set_option linter.unusedSimpArgs false
set_option linter.unusedVariables false
section
variable {H : Type} {enc : TypeId × Value → H} {w : World} {base : Nat} {held : Bool} {r : Reach} {b0 : Nat} {v : Value} {d : DataW H} {p : List MemPlace}
set_option maxRecDepth 100000 in
theorem open_sealeds (hv : Value.okWide Tryd.prog w r b0 22 v) (h : DataW.Trod enc Tryd.prog w base (fun _ => true) held 22 v d p) :
    ∃ a n c ps, v = .slice a n c ∧ ShS w a n ps ∧ (∀ q, q ∈ ps → U64 q.1 ∧ U64 q.2) ∧ (a = none → c = 0) ∧ n ≤ c := by
  obtain ⟨a0, l0, c0, rfl⟩ := okWide_slice Tryd.underlying22 hv
  obtain ⟨fuel, hf⟩ := h
  rcases Deep.open_slice_pairs Tryd.underlying22 Tryd.underlying78 (by kernel_rfl) rfl rfl (by kernel_rfl) (by kernel_rfl) hf with ⟨hcs, -⟩ | ⟨a, len, cap, m, n, V0, V1, D0, D1, P0, P1, hcs, -, hl, hm, hmm, -, hx⟩
  · simp [Value.cells] at hcs
    obtain ⟨rfl, rfl, rfl⟩ := hcs
    exact ⟨none, 0, 0, [], rfl, ShS.nil w _, (fun q hq => by cases hq), (fun _ => rfl), Nat.le_refl _⟩
  · simp [Value.cells] at hcs
    obtain ⟨rfl, rfl, rfl⟩ := hcs
    have hmc : m = c0 := by simpa using hmm
    have each : ∀ i, i < l0 → ∃ q : Int × Int, V0 i = .int .u64 q.1 ∧ V1 i = .int .u64 q.2 ∧ U64 q.1 ∧ U64 q.2 := by
      intro i hi
      obtain ⟨-, -, h0, h1⟩ := hx i (by omega)
      obtain ⟨x, e0, -, wx⟩ := DataW.trod_int Tryd.underlying24 h0
      obtain ⟨y, e1, -, wy⟩ := DataW.trod_int Tryd.underlying24 h1
      simp at e0 e1
      exact ⟨(x, y), e0, e1, U64.wf wx, U64.wf wy⟩
    obtain ⟨q, hq⟩ := Deep.choose_lt each
    by_cases hl0 : l0 = 0
    · subst hl0
      exact ⟨_, _, _, [], rfl, ShS.nil w _, (fun q hq => by cases hq), (fun h => by cases h), hl⟩
    · obtain ⟨b, off, spot⟩ := a
      have g0 := (hx 0 (by omega)).1
      have hspot : spot = none := by simpa [Addr.add] using World.cell?_spot g0
      subst hspot
      have hcell : ∀ i, i < l0 → w.cell? ⟨b, off + i * 2, none⟩ = some (.int .u64 (q i).1) ∧ w.cell? ⟨b, off + i * 2 + 1, none⟩ = some (.int .u64 (q i).2) := by
        intro i hi
        obtain ⟨h0, h1, -, -⟩ := hx i (by omega)
        obtain ⟨e0, e1, -, -⟩ := hq i hi
        rw [e0] at h0
        rw [e1] at h1
        rw [add_plain] at h0 h1
        exact ⟨h0, by rw [Nat.add_assoc]; exact h1⟩
      have hlt : b < w.heap.size := by
        have := (hcell 0 (by omega)).1
        exact World.block_lt_of_cell? w _ this
      refine ⟨_, _, _, (List.range l0).map q, rfl, .inr ⟨b, off, rfl, by simp, hlt, fun i hi => ?_⟩, fun z hz => ?_, (fun h => by cases h), hl⟩
      · have hi' : i < l0 := by simpa using hi
        have e : ((List.range l0).map q).getD i (0, 0) = q i := by simp [List.getD_eq_getElem?_getD, hi']
        rw [e]; exact hcell i hi'
      · obtain ⟨i, hi, rfl⟩ := List.mem_map.1 hz
        obtain ⟨-, -, h1, h2⟩ := hq i (by simpa using hi)
        exact ⟨h1, h2⟩
end
end Go.Proofs.YtlbldpkgnonbpaaDoor
/- How pairs of numbers and bit proofs among the arguments are opened. -/
namespace Go.Proofs.YtlbldpkgnonbpaaDoor
open Go.ChangeShapes Go.WideShapes Go.ChangeAt Go.RowKit
set_option linter.unusedSimpArgs false
set_option linter.unusedVariables false

theorem okWide_arr {P : Program} {w : World} {r : Reach} {b0 : Nat} {t : TypeId} {n : Nat} {e : TypeId} {v : Value} (ht : P.underlying t = some (.array n e)) (h : Value.okWide P w r b0 t v) : ∃ cs, v = .agg cs ∧ cs.size = P.cellsOf t := by
  unfold Value.okWide at h
  rw [ht] at h
  obtain ⟨cs, h1, h2, _⟩ := h
  exact ⟨cs, h1, h2⟩
theorem list2 : ∀ (l : List Value), l.length = 2 → ∃ a b, l = [a, b]
  | [a, b], _ => ⟨a, b, rfl⟩
theorem list8 : ∀ (l : List Value), l.length = 8 → ∃ a b c d e f g i, l = [a, b, c, d, e, f, g, i]
  | [a, b, c, d, e, f, g, i], _ => ⟨a, b, c, d, e, f, g, i, rfl⟩
section
variable {H : Type} {enc : TypeId × Value → H} {P : Program} {w : World} {base : Nat} {spare : Nat → Bool} {held : Bool} {r : Reach} {b0 : Nat} {v : Value} {d : DataW H} {p : List MemPlace}
theorem arr2 {t e : TypeId} {fuel : Nat} {x0 x1 : Value} {x : DataW H × List MemPlace} (ht : P.underlying t = some (.array 2 e)) (he : P.underlying e = some (.int .u64)) (hc : P.cellsOf e = 1) (h : DataW.trod enc P w base spare held fuel t [x0, x1] = some x) :
    ∃ a b : Int, x0 = .int .u64 a ∧ x1 = .int .u64 b ∧ U64 a ∧ U64 b := by
  obtain ⟨xs, m, _, _, hl, hn, hx⟩ := DataW.trod_array ht h
  have h0 := hx 0 (by omega)
  have h1 := hx 1 (by omega)
  rw [hc, List.getElem?_eq_getElem (by omega)] at h0 h1
  obtain ⟨a, e0, _, wa⟩ := DataW.trod_int he h0
  obtain ⟨b, e1, _, wb⟩ := DataW.trod_int he h1
  simp at e0 e1
  exact ⟨a, b, e0, e1, U64.wf wa, U64.wf wb⟩
end
section
variable {H : Type} {enc : TypeId × Value → H} {w : World} {base : Nat} {spare : Nat → Bool} {held : Bool} {r : Reach} {b0 : Nat} {v : Value} {d : DataW H} {p : List MemPlace}
set_option maxRecDepth 100000 in
theorem open_p64 (hv : Value.okWide Tryd.prog w r b0 25 v) (h : DataW.Trod enc Tryd.prog w base spare held 25 v d p) :
    ∃ a b : Int, v = .agg #[.int .u64 a, .int .u64 b] ∧ U64 a ∧ U64 b := by
  obtain ⟨cs, rfl, hsz⟩ := okWide_arr Tryd.underlying25 hv
  obtain ⟨fuel, hf⟩ := h
  simp only [Value.cells] at hf
  have h2 : cs.toList.length = 2 := by rw [Array.length_toList, hsz]; kernel_rfl
  obtain ⟨x0, x1, hl⟩ := list2 _ h2
  rw [hl] at hf
  obtain ⟨a, b, rfl, rfl, ua, ub⟩ := arr2 Tryd.underlying25 Tryd.underlying24 (by kernel_rfl) hf
  refine ⟨a, b, ?_, ua, ub⟩
  congr 1
  exact Array.toList_inj.1 hl
set_option maxRecDepth 100000 in
theorem open_bit (hv : Value.okWide Tryd.prog w r b0 27 v) (h : DataW.Trod enc Tryd.prog w base spare held 27 v d p) :
    ∃ r0 r1 s0 s1 c0 c1 z0 z1 : Int, v = .agg #[.int .u64 r0, .int .u64 r1, .int .u64 s0, .int .u64 s1, .int .u64 c0, .int .u64 c1, .int .u64 z0, .int .u64 z1] ∧ U64 r0 ∧ U64 r1 ∧ U64 s0 ∧ U64 s1 ∧ U64 c0 ∧ U64 c1 ∧ U64 z0 ∧ U64 z1 := by
  obtain ⟨cs, rfl, hsz⟩ := okWide_struct Tryd.underlying27 hv
  obtain ⟨fuel, hf⟩ := h
  simp only [Value.cells] at hf
  have h2 : cs.toList.length = 8 := by rw [Array.length_toList, hsz]; kernel_rfl
  obtain ⟨x0, x1, x2, x3, x4, x5, x6, x7, hl⟩ := list8 _ h2
  rw [hl] at hf
  obtain ⟨xs, k, hk, hxy, _, hxl, hff⟩ := DataW.trod_struct Tryd.underlying27 hf
  match xs, hxl with
  | [y0, y1, y2, y3], _ =>
    have c39 : Tryd.prog.cellsOf 25 = 2 := by kernel_rfl
    have g0 := hff 0 _ rfl
    have g1 := hff 1 _ rfl
    have g2 := hff 2 _ rfl
    have g3 := hff 3 _ rfl
    simp [c39] at g0 g1 g2 g3
    obtain ⟨r0, r1, rfl, rfl, u0, u1⟩ := arr2 Tryd.underlying25 Tryd.underlying24 (by kernel_rfl) g0
    obtain ⟨s0, s1, rfl, rfl, u2, u3⟩ := arr2 Tryd.underlying25 Tryd.underlying24 (by kernel_rfl) g1
    obtain ⟨c0, c1, rfl, rfl, u4, u5⟩ := arr2 Tryd.underlying25 Tryd.underlying24 (by kernel_rfl) g2
    obtain ⟨z0, z1, rfl, rfl, u6, u7⟩ := arr2 Tryd.underlying25 Tryd.underlying24 (by kernel_rfl) g3
    refine ⟨r0, r1, s0, s1, c0, c1, z0, z1, ?_, u0, u1, u2, u3, u4, u5, u6, u7⟩
    congr 1
    exact Array.toList_inj.1 hl
end
end Go.Proofs.YtlbldpkgnonbpaaDoor
/- Votes: how they lie, and how lists of them among the arguments are opened. -/
namespace Go.Proofs.YtlbldpkgnonbpaaDoor
open Go.ChangeShapes Go.WideShapes Go.ChangeAt Go.RowKit Num
set_option linter.unusedSimpArgs false
set_option linter.unusedVariables false

/-- The numbers of a bit proof. -/
structure Bt where
  r0 : Int
  r1 : Int
  s0 : Int
  s1 : Int
  c0 : Int
  c1 : Int
  z0 : Int
  z1 : Int
def Bt.vs (x : Bt) : List Value := [.int .u64 x.r0, .int .u64 x.r1, .int .u64 x.s0, .int .u64 x.s1, .int .u64 x.c0, .int .u64 x.c1, .int .u64 x.z0, .int .u64 x.z1]
def Bt.u (x : Bt) : Prop := U64 x.r0 ∧ U64 x.r1 ∧ U64 x.s0 ∧ U64 x.s1 ∧ U64 x.c0 ∧ U64 x.c1 ∧ U64 x.z0 ∧ U64 x.z1
def Bt.zero : Bt := ⟨0, 0, 0, 0, 0, 0, 0, 0⟩
instance : Inhabited Bt := ⟨Bt.zero⟩
/-- A slice of bit proofs. -/
def ShB (w : World) (a : Option Addr) (n : Nat) (ps : List Bt) : Prop :=
  (n = 0 ∧ ps = []) ∨ ∃ s o, a = some ⟨s, o, none⟩ ∧ n = ps.length ∧ s < w.heap.size ∧ ∀ i, i < ps.length → ∀ k u, (ps.getD i Bt.zero).vs[k]? = some u → w.cell? ⟨s, o + i * 8 + k, none⟩ = some u
theorem ShB.len {w : World} {a : Option Addr} {n : Nat} {ps : List Bt} (h : ShB w a n ps) : n = ps.length := by
  rcases h with ⟨h1, h2⟩ | ⟨s, o, _, h1, _⟩
  · rw [h1, h2]; rfl
  · exact h1
theorem ShB.keep {w w' : World} {a : Option Addr} {n : Nat} {ps : List Bt} (h : ShB w a n ps) (hb : Below w.heap.size w w') : ShB w' a n ps := by
  rcases h with h | ⟨s, o, h0, h1, h2, h3⟩
  · exact .inl h
  · exact .inr ⟨s, o, h0, h1, Nat.lt_of_lt_of_le h2 hb.size, fun i hi k u hu => (hb.cell (p := ⟨s, o + i * 8 + k, none⟩) h2).trans (h3 i hi k u hu)⟩
/-- The eight cells of a proof. -/
structure BCells (w : World) (s p : Nat) (z : Bt) : Prop where
  lt : s < w.heap.size
  c0 : w.cell? ⟨s, p, none⟩ = some (.int .u64 z.r0)
  c1 : w.cell? ⟨s, p + 1, none⟩ = some (.int .u64 z.r1)
  c2 : w.cell? ⟨s, p + 2, none⟩ = some (.int .u64 z.s0)
  c3 : w.cell? ⟨s, p + 3, none⟩ = some (.int .u64 z.s1)
  c4 : w.cell? ⟨s, p + 4, none⟩ = some (.int .u64 z.c0)
  c5 : w.cell? ⟨s, p + 5, none⟩ = some (.int .u64 z.c1)
  c6 : w.cell? ⟨s, p + 6, none⟩ = some (.int .u64 z.z0)
  c7 : w.cell? ⟨s, p + 7, none⟩ = some (.int .u64 z.z1)
theorem ShB.at {w : World} {a : Option Addr} {n : Nat} {ps : List Bt} (h : ShB w a n ps) (k : Nat) (hk : k < n) : ∃ s o z, a = some ⟨s, o, none⟩ ∧ ps[k]? = some z ∧ BCells w s (o + k * 8) z := by
  rcases h with ⟨h1, _⟩ | ⟨s, o, h0, h1, h2, h3⟩
  · omega
  · have hl : k < ps.length := by omega
    refine ⟨s, o, ps[k], h0, List.getElem?_eq_getElem hl, ?_⟩
    have e : ps.getD k Bt.zero = ps[k] := by rw [List.getD_eq_getElem?_getD, List.getElem?_eq_getElem hl]; rfl
    have g := h3 k hl
    rw [e] at g
    exact ⟨h2, g 0 _ rfl, g 1 _ rfl, g 2 _ rfl, g 3 _ rfl, g 4 _ rfl, g 5 _ rfl, g 6 _ rfl, g 7 _ rfl⟩
/-- A vote: its two slices, its flag, its last proof. -/
structure Vt where
  a : Option Addr
  n : Nat
  c : Nat
  bs : List (Int × Int)
  b : Option Addr
  m : Nat
  d : Nat
  ps : List Bt
  one : Bool
  z : Bt
instance : Inhabited Vt := ⟨⟨none, 0, 0, [], none, 0, 0, [], false, Bt.zero⟩⟩
def Vt.vs (V : Vt) : List Value := [.slice V.a V.n V.c, .slice V.b V.m V.d, .bool V.one] ++ V.z.vs
def Vt.v (V : Vt) : Value := .agg #[.slice V.a V.n V.c, .slice V.b V.m V.d, .bool V.one, .int .u64 V.z.r0, .int .u64 V.z.r1, .int .u64 V.z.s0, .int .u64 V.z.s1, .int .u64 V.z.c0, .int .u64 V.z.c1, .int .u64 V.z.z0, .int .u64 V.z.z1]
structure VtIn (w : World) (V : Vt) : Prop where
  h1 : ShS w V.a V.n V.bs
  u1 : ∀ q, q ∈ V.bs → U64 q.1 ∧ U64 q.2
  k1 : V.a = none → V.c = 0
  h2 : ShB w V.b V.m V.ps
  u2 : ∀ q, q ∈ V.ps → q.u
  k2 : V.b = none → V.d = 0
  uz : V.z.u
theorem VtIn.keep {w w' : World} {V : Vt} (h : VtIn w V) (hb : Below w.heap.size w w') : VtIn w' V := ⟨h.h1.keep hb, h.u1, h.k1, h.h2.keep hb, h.u2, h.k2, h.uz⟩
/-- A slice of votes. -/
structure VRow (w : World) (s o : Nat) (l : List Vt) : Prop where
  lt : s < w.heap.size
  c : ∀ i (h : i < l.length), ∀ k u, l[i].vs[k]? = some u → w.cell? ⟨s, o + i * 11 + k, none⟩ = some u
  ok : ∀ V, V ∈ l → VtIn w V
theorem VRow.keep {w w' : World} {s o : Nat} {l : List Vt} (h : VRow w s o l) (hb : Below w.heap.size w w') : VRow w' s o l :=
  ⟨Nat.lt_of_lt_of_le h.lt hb.size, fun i hi k u hu => (hb.cell (p := ⟨s, o + i * 11 + k, none⟩) h.lt).trans (h.c i hi k u hu), fun V hV => (h.ok V hV).keep hb⟩
def ShV (w : World) (a : Option Addr) (n : Nat) (l : List Vt) : Prop := (n = 0 ∧ l = []) ∨ ∃ s o, a = some ⟨s, o, none⟩ ∧ n = l.length ∧ VRow w s o l
theorem ShV.len {w : World} {a : Option Addr} {n : Nat} {l : List Vt} (h : ShV w a n l) : n = l.length := by
  rcases h with ⟨h1, h2⟩ | ⟨s, o, _, h1, _⟩
  · rw [h1, h2]; rfl
  · exact h1
theorem ShV.keep {w w' : World} {a : Option Addr} {n : Nat} {l : List Vt} (h : ShV w a n l) (hb : Below w.heap.size w w') : ShV w' a n l := by
  rcases h with h | ⟨s, o, h0, h1, h2⟩
  · exact .inl h
  · exact .inr ⟨s, o, h0, h1, h2.keep hb⟩
theorem ShV.nil (w : World) (a : Option Addr) : ShV w a 0 [] := .inl ⟨rfl, rfl⟩
/-- The eleven cells of one. -/
structure VCells (w : World) (s p : Nat) (V : Vt) : Prop where
  lt : s < w.heap.size
  c0 : w.cell? ⟨s, p, none⟩ = some (.slice V.a V.n V.c)
  c1 : w.cell? ⟨s, p + 1, none⟩ = some (.slice V.b V.m V.d)
  c2 : w.cell? ⟨s, p + 2, none⟩ = some (.bool V.one)
  c3 : w.cell? ⟨s, p + 3, none⟩ = some (.int .u64 V.z.r0)
  c4 : w.cell? ⟨s, p + 4, none⟩ = some (.int .u64 V.z.r1)
  c5 : w.cell? ⟨s, p + 5, none⟩ = some (.int .u64 V.z.s0)
  c6 : w.cell? ⟨s, p + 6, none⟩ = some (.int .u64 V.z.s1)
  c7 : w.cell? ⟨s, p + 7, none⟩ = some (.int .u64 V.z.c0)
  c8 : w.cell? ⟨s, p + 8, none⟩ = some (.int .u64 V.z.c1)
  c9 : w.cell? ⟨s, p + 9, none⟩ = some (.int .u64 V.z.z0)
  c10 : w.cell? ⟨s, p + 10, none⟩ = some (.int .u64 V.z.z1)
theorem VCells.keep {w w' : World} {s p : Nat} {V : Vt} (h : VCells w s p V) (hb : Below w.heap.size w w') : VCells w' s p V :=
  ⟨Nat.lt_of_lt_of_le h.lt hb.size, (hb.cell (p := ⟨s, p, none⟩) h.lt).trans h.c0, (hb.cell (p := ⟨s, p + 1, none⟩) h.lt).trans h.c1, (hb.cell (p := ⟨s, p + 2, none⟩) h.lt).trans h.c2, (hb.cell (p := ⟨s, p + 3, none⟩) h.lt).trans h.c3, (hb.cell (p := ⟨s, p + 4, none⟩) h.lt).trans h.c4, (hb.cell (p := ⟨s, p + 5, none⟩) h.lt).trans h.c5, (hb.cell (p := ⟨s, p + 6, none⟩) h.lt).trans h.c6, (hb.cell (p := ⟨s, p + 7, none⟩) h.lt).trans h.c7, (hb.cell (p := ⟨s, p + 8, none⟩) h.lt).trans h.c8, (hb.cell (p := ⟨s, p + 9, none⟩) h.lt).trans h.c9, (hb.cell (p := ⟨s, p + 10, none⟩) h.lt).trans h.c10⟩
theorem VRow.at {w : World} {s o : Nat} {l : List Vt} (h : VRow w s o l) (i : Nat) (hi : i < l.length) : VCells w s (o + i * 11) l[i] :=
  have g := h.c i hi
  ⟨h.lt, g 0 _ rfl, g 1 _ rfl, g 2 _ rfl, g 3 _ rfl, g 4 _ rfl, g 5 _ rfl, g 6 _ rfl, g 7 _ rfl, g 8 _ rfl, g 9 _ rfl, g 10 _ rfl⟩
theorem ShV.at {w : World} {a : Option Addr} {n : Nat} {l : List Vt} (h : ShV w a n l) (k : Nat) (hk : k < n) : ∃ s o V, a = some ⟨s, o, none⟩ ∧ l[k]? = some V ∧ VCells w s (o + k * 11) V ∧ VtIn w V := by
  rcases h with ⟨h1, _⟩ | ⟨s, o, h0, h1, h2⟩
  · omega
  · have hl : k < l.length := by omega
    exact ⟨s, o, l[k], h0, List.getElem?_eq_getElem hl, h2.at k hl, h2.ok _ (List.getElem_mem hl)⟩
theorem ShV.drop {w : World} {ad : Addr} {n : Nat} {l : List Vt} (h : ShV w (some ad) n l) (m : Nat) : ShV w (some (ad.add (m * 11))) (n - m) (l.drop m) := by
  rcases h with ⟨h, h'⟩ | ⟨s', o', h0, h1, h2⟩
  · exact .inl ⟨by omega, by rw [h']; simp⟩
  · cases h0
    refine .inr ⟨s', o' + m * 11, by rw [add_pl], by simp [h1], h2.lt, fun i hi k u hu => ?_, fun V hV => h2.ok V (List.mem_of_mem_drop hV)⟩
    have hi' : m + i < l.length := by simp at hi; omega
    rw [List.getElem_drop] at hu
    have := h2.c (m + i) hi' k u hu
    rwa [show o' + (m + i) * 11 + k = o' + m * 11 + i * 11 + k by omega] at this
theorem ShV.take {w : World} {a : Option Addr} {n : Nat} {l : List Vt} (h : ShV w a n l) (m : Nat) (hm : m ≤ n) : ShV w a m (l.take m) := by
  rcases h with ⟨h, h'⟩ | ⟨s', o', h0, h1, h2⟩
  · exact .inl ⟨by omega, by rw [h']; simp⟩
  · refine .inr ⟨s', o', h0, by simp; omega, h2.lt, fun i hi k u hu => ?_, fun V hV => h2.ok V (List.mem_of_mem_take hV)⟩
    have hi' : i < l.length := by simp at hi; omega
    rw [List.getElem_take] at hu
    exact h2.c i hi' k u hu

section
variable {H : Type} {enc : TypeId × Value → H} {w : World} {base : Nat} {held : Bool} {r : Reach} {b0 : Nat} {v : Value} {d : DataW H} {p : List MemPlace}
theorem list11 : ∀ (l : List Value), l.length = 11 → ∃ a b c d e f g i j k m, l = [a, b, c, d, e, f, g, i, j, k, m]
  | [a, b, c, d, e, f, g, i, j, k, m], _ => ⟨a, b, c, d, e, f, g, i, j, k, m, rfl⟩
set_option maxRecDepth 100000 in
theorem bit_cells {spare : Nat → Bool} {fuel : Nat} {cs : List Value} {x : DataW H × List MemPlace} (h2 : cs.length = 8) (hf : DataW.trod enc Tryd.prog w base spare held fuel 27 cs = some x) : ∃ z : Bt, cs = z.vs ∧ z.u := by
  obtain ⟨x0, x1, x2, x3, x4, x5, x6, x7, hl⟩ := list8 _ h2
  rw [hl] at hf
  obtain ⟨xs, k, hk, hxy, _, hxl, hff⟩ := DataW.trod_struct Tryd.underlying27 hf
  match xs, hxl with
  | [y0, y1, y2, y3], _ =>
    have c39 : Tryd.prog.cellsOf 25 = 2 := by kernel_rfl
    have g0 := hff 0 _ rfl
    have g1 := hff 1 _ rfl
    have g2 := hff 2 _ rfl
    have g3 := hff 3 _ rfl
    simp [c39] at g0 g1 g2 g3
    obtain ⟨r0, r1, rfl, rfl, u0, u1⟩ := arr2 Tryd.underlying25 Tryd.underlying24 (by kernel_rfl) g0
    obtain ⟨s0, s1, rfl, rfl, u2, u3⟩ := arr2 Tryd.underlying25 Tryd.underlying24 (by kernel_rfl) g1
    obtain ⟨c0, c1, rfl, rfl, u4, u5⟩ := arr2 Tryd.underlying25 Tryd.underlying24 (by kernel_rfl) g2
    obtain ⟨z0, z1, rfl, rfl, u6, u7⟩ := arr2 Tryd.underlying25 Tryd.underlying24 (by kernel_rfl) g3
    exact ⟨⟨r0, r1, s0, s1, c0, c1, z0, z1⟩, hl, u0, u1, u2, u3, u4, u5, u6, u7⟩
set_option maxRecDepth 100000 in
theorem sealeds_cells {fuel : Nat} {v0 : Value} {y : DataW H × List MemPlace} (hf : DataW.trod enc Tryd.prog w base (fun _ => true) held fuel 22 [v0] = some y) :
    ∃ a n c ps, v0 = .slice a n c ∧ ShS w a n ps ∧ (∀ q, q ∈ ps → U64 q.1 ∧ U64 q.2) ∧ (a = none → c = 0) ∧ n ≤ c := by
  rcases Deep.open_slice_pairs Tryd.underlying22 Tryd.underlying78 (by kernel_rfl) rfl rfl (by kernel_rfl) (by kernel_rfl) hf with ⟨hcs, -⟩ | ⟨a, l0, c0, m, n, V0, V1, D0, D1, P0, P1, hcs, -, hl, hm, hmm, -, hx⟩
  · simp at hcs
    exact ⟨none, 0, 0, [], hcs, ShS.nil w _, (fun q hq => by cases hq), (fun _ => rfl), Nat.le_refl _⟩
  · simp at hcs
    subst hcs
    have hmc : m = c0 := by simpa using hmm
    have each : ∀ i, i < l0 → ∃ q : Int × Int, V0 i = .int .u64 q.1 ∧ V1 i = .int .u64 q.2 ∧ U64 q.1 ∧ U64 q.2 := by
      intro i hi
      obtain ⟨-, -, h0, h1⟩ := hx i (by omega)
      obtain ⟨x, e0, -, wx⟩ := DataW.trod_int Tryd.underlying24 h0
      obtain ⟨y, e1, -, wy⟩ := DataW.trod_int Tryd.underlying24 h1
      simp at e0 e1
      exact ⟨(x, y), e0, e1, U64.wf wx, U64.wf wy⟩
    obtain ⟨q, hq⟩ := Deep.choose_lt each
    by_cases hl0 : l0 = 0
    · subst hl0
      exact ⟨_, _, _, [], rfl, ShS.nil w _, (fun q hq => by cases hq), (fun h => by cases h), hl⟩
    · obtain ⟨b, off, spot⟩ := a
      have g0 := (hx 0 (by omega)).1
      have hspot : spot = none := by simpa [Addr.add] using World.cell?_spot g0
      subst hspot
      have hcell : ∀ i, i < l0 → w.cell? ⟨b, off + i * 2, none⟩ = some (.int .u64 (q i).1) ∧ w.cell? ⟨b, off + i * 2 + 1, none⟩ = some (.int .u64 (q i).2) := by
        intro i hi
        obtain ⟨h0, h1, -, -⟩ := hx i (by omega)
        obtain ⟨e0, e1, -, -⟩ := hq i hi
        rw [e0] at h0
        rw [e1] at h1
        rw [add_pl] at h0 h1
        exact ⟨h0, by rw [Nat.add_assoc]; exact h1⟩
      have hlt : b < w.heap.size := World.block_lt_of_cell? w _ (hcell 0 (by omega)).1
      refine ⟨_, _, _, (List.range l0).map q, rfl, .inr ⟨b, off, rfl, by simp, hlt, fun i hi => ?_⟩, fun z hz => ?_, (fun h => by cases h), hl⟩
      · have hi' : i < l0 := by simpa using hi
        have e : ((List.range l0).map q).getD i (0, 0) = q i := by simp [List.getD_eq_getElem?_getD, hi']
        rw [e]; exact hcell i hi'
      · obtain ⟨i, hi, rfl⟩ := List.mem_map.1 hz
        obtain ⟨-, -, h1, h2⟩ := hq i (by simpa using hi)
        exact ⟨h1, h2⟩
set_option maxRecDepth 100000 in
theorem bits_cells {fuel : Nat} {v0 : Value} {y : DataW H × List MemPlace} (hf : DataW.trod enc Tryd.prog w base (fun _ => true) held fuel 23 [v0] = some y) :
    ∃ a n c ps, v0 = .slice a n c ∧ ShB w a n ps ∧ (∀ q, q ∈ ps → q.u) ∧ (a = none → c = 0) ∧ n ≤ c := by
  have c8 : Tryd.prog.cellsOf 27 = 8 := by kernel_rfl
  rcases Deep.open_slice Tryd.underlying23 hf with ⟨hcs, -⟩ | ⟨a, l0, c0, m, n, D, Pl, hcs, -, hl, hm, hmm, -, hx⟩
  · simp at hcs
    exact ⟨none, 0, 0, [], hcs, .inl ⟨rfl, rfl⟩, (fun q hq => by cases hq), (fun _ => rfl), Nat.le_refl _⟩
  · simp at hcs
    subst hcs
    have hmc : m = c0 := by simpa using hmm
    have each : ∀ i, i < l0 → ∃ q : Bt, (∀ k u, q.vs[k]? = some u → w.cell? (a.add (i * 8 + k)) = some u) ∧ q.u := by
      intro i hi
      obtain ⟨cs', h1, h2⟩ := hx i (by omega)
      rw [c8] at h1
      obtain ⟨_, hlen, hcell⟩ := World.cells?_some h1
      obtain ⟨z, rfl, hz⟩ := bit_cells hlen h2
      refine ⟨z, fun k u hu => ?_, hz⟩
      have hk : k < 8 := by have := (List.getElem?_eq_some_iff.1 hu).1; simpa [Bt.vs] using this
      have := hcell k hk
      rw [Deep.add_add] at this
      rw [this]; exact hu
    obtain ⟨q, hq⟩ := Deep.choose_lt each
    by_cases hl0 : l0 = 0
    · subst hl0
      exact ⟨_, _, _, [], rfl, .inl ⟨rfl, rfl⟩, (fun q hq => by cases hq), (fun h => by cases h), hl⟩
    · obtain ⟨b, off, spot⟩ := a
      have g0 := (hq 0 (by omega)).1 0 _ rfl
      have hspot : spot = none := by simpa [Addr.add] using World.cell?_spot g0
      subst hspot
      have hlt : b < w.heap.size := by have := World.block_lt_of_cell? w _ g0; simpa [add_pl] using this
      refine ⟨_, _, _, (List.range l0).map q, rfl, .inr ⟨b, off, rfl, by simp, hlt, fun i hi k u hu => ?_⟩, fun z hz => ?_, (fun h => by cases h), hl⟩
      · have hi' : i < l0 := by simpa using hi
        have e : ((List.range l0).map q).getD i Bt.zero = q i := by simp [List.getD_eq_getElem?_getD, hi']
        rw [e] at hu
        have := (hq i hi').1 k u hu
        rwa [add_pl, ← Nat.add_assoc] at this
      · obtain ⟨i, hi, rfl⟩ := List.mem_map.1 hz
        exact (hq i (by simpa using hi)).2
set_option maxRecDepth 100000 in
theorem vote_cells {fuel : Nat} {cs : List Value} {x : DataW H × List MemPlace} (h2 : cs.length = 11) (hf : DataW.trod enc Tryd.prog w base (fun _ => true) held fuel 29 cs = some x) : ∃ V : Vt, cs = V.vs ∧ VtIn w V := by
  obtain ⟨x0, x1, x2, x3, x4, x5, x6, x7, x8, x9, x10, hl⟩ := list11 _ h2
  rw [hl] at hf
  obtain ⟨xs, k, hk, hxy, _, hxl, hff⟩ := DataW.trod_struct Tryd.underlying29 hf
  match xs, hxl with
  | [y0, y1, y2, y3], _ =>
    have c8 : Tryd.prog.cellsOf 27 = 8 := by kernel_rfl
    have c1 : Tryd.prog.cellsOf 22 = 1 := by kernel_rfl
    have c2 : Tryd.prog.cellsOf 23 = 1 := by kernel_rfl
    have c3 : Tryd.prog.cellsOf 4 = 1 := by kernel_rfl
    have g0 := hff 0 _ rfl
    have g1 := hff 1 _ rfl
    have g2 := hff 2 _ rfl
    have g3 := hff 3 _ rfl
    simp [c8, c1, c2, c3] at g0 g1 g2 g3
    obtain ⟨a, n, c, bs, rfl, q1, q2, q3, -⟩ := sealeds_cells g0
    obtain ⟨b, m, d, ps, rfl, q4, q5, q6, -⟩ := bits_cells g1
    obtain ⟨one, e2, -⟩ := DataW.trod_bool Tryd.underlying4 g2
    obtain ⟨z, e3, hz⟩ := bit_cells rfl g3
    simp at e2
    subst e2
    refine ⟨⟨a, n, c, bs, b, m, d, ps, one, z⟩, ?_, q1, q2, q3, q4, q5, q6, hz⟩
    rw [hl]
    simp [Vt.vs, ← e3]
set_option maxRecDepth 100000 in
theorem votes_cells {fuel : Nat} {v0 : Value} {y : DataW H × List MemPlace} (hf : DataW.trod enc Tryd.prog w base (fun _ => true) held fuel 50 [v0] = some y) :
    ∃ a n c l, v0 = .slice a n c ∧ ShV w a n l ∧ (a = none → c = 0) ∧ n ≤ c := by
  have c11 : Tryd.prog.cellsOf 29 = 11 := by kernel_rfl
  rcases Deep.open_slice Tryd.underlying50 hf with ⟨hcs, -⟩ | ⟨a, l0, c0, m, n, D, Pl, hcs, -, hl, hm, hmm, -, hx⟩
  · simp at hcs
    exact ⟨none, 0, 0, [], hcs, ShV.nil _ _, (fun _ => rfl), Nat.le_refl _⟩
  · simp at hcs
    subst hcs
    have hmc : m = c0 := by simpa using hmm
    have each : ∀ i, i < l0 → ∃ V : Vt, (∀ k u, V.vs[k]? = some u → w.cell? (a.add (i * 11 + k)) = some u) ∧ VtIn w V := by
      intro i hi
      obtain ⟨cs', h1, h2⟩ := hx i (by omega)
      rw [c11] at h1
      obtain ⟨_, hlen, hcell⟩ := World.cells?_some h1
      obtain ⟨V, rfl, hz⟩ := vote_cells hlen h2
      refine ⟨V, fun k u hu => ?_, hz⟩
      have hk : k < 11 := by have := (List.getElem?_eq_some_iff.1 hu).1; simpa [Vt.vs, Bt.vs] using this
      have := hcell k hk
      rw [Deep.add_add] at this
      rw [this]; exact hu
    obtain ⟨q, hq⟩ := Deep.choose_lt each
    by_cases hl0 : l0 = 0
    · subst hl0
      exact ⟨_, _, _, [], rfl, ShV.nil _ _, (fun h => by cases h), hl⟩
    · obtain ⟨b, off, spot⟩ := a
      have g0 := (hq 0 (by omega)).1 0 _ rfl
      have hspot : spot = none := by simpa [Addr.add] using World.cell?_spot g0
      subst hspot
      have hlt : b < w.heap.size := by have := World.block_lt_of_cell? w _ g0; simpa [add_pl] using this
      refine ⟨_, _, _, (List.range l0).map q, rfl, .inr ⟨b, off, rfl, by simp, hlt, fun i hi k u hu => ?_, fun V hV => ?_⟩, (fun h => by cases h), hl⟩
      · have hi' : i < l0 := by simpa using hi
        have e : ((List.range l0).map q)[i] = q i := by simp
        rw [e] at hu
        have := (hq i hi').1 k u hu
        rwa [add_pl, ← Nat.add_assoc] at this
      · obtain ⟨i, hi, rfl⟩ := List.mem_map.1 hV
        exact (hq i (by simpa using hi)).2
set_option maxRecDepth 100000 in
theorem open_votes (hv : Value.okWide Tryd.prog w r b0 50 v) (h : DataW.Trod enc Tryd.prog w base (fun _ => true) held 50 v d p) :
    ∃ a n c l, v = .slice a n c ∧ ShV w a n l ∧ (a = none → c = 0) ∧ n ≤ c := by
  obtain ⟨a0, l0, c0, rfl⟩ := okWide_slice Tryd.underlying50 hv
  obtain ⟨fuel, hf⟩ := h
  exact votes_cells hf
end
/-- A vote in a box. -/
structure VBox (w : World) (B : Nat) (V : Vt) : Prop where
  lt : B < w.heap.size
  c0 : w.cell? ⟨B, 0, none⟩ = some (.slice V.a V.n V.c)
  c1 : w.cell? ⟨B, 1, none⟩ = some (.slice V.b V.m V.d)
  c2 : w.cell? ⟨B, 2, none⟩ = some (.bool V.one)
  c3 : w.cell? ⟨B, 3, none⟩ = some (.int .u64 V.z.r0)
  c4 : w.cell? ⟨B, 4, none⟩ = some (.int .u64 V.z.r1)
  c5 : w.cell? ⟨B, 5, none⟩ = some (.int .u64 V.z.s0)
  c6 : w.cell? ⟨B, 6, none⟩ = some (.int .u64 V.z.s1)
  c7 : w.cell? ⟨B, 7, none⟩ = some (.int .u64 V.z.c0)
  c8 : w.cell? ⟨B, 8, none⟩ = some (.int .u64 V.z.c1)
  c9 : w.cell? ⟨B, 9, none⟩ = some (.int .u64 V.z.z0)
  c10 : w.cell? ⟨B, 10, none⟩ = some (.int .u64 V.z.z1)
  f0 : ∀ o, w.frozen? ⟨B, o, none⟩ = false
theorem VBox.at (w : World) (V : Vt) (t : TypeId) (B : Nat) (hB : B = w.heap.size) : VBox (w.alloc (.cells #[.slice V.a V.n V.c, .slice V.b V.m V.d, .bool V.one, .int .u64 V.z.r0, .int .u64 V.z.r1, .int .u64 V.z.s0, .int .u64 V.z.s1, .int .u64 V.z.c0, .int .u64 V.z.c1, .int .u64 V.z.z0, .int .u64 V.z.z1] t)) B V := by
  subst hB
  refine ⟨by simp, ?_, ?_, ?_, ?_, ?_, ?_, ?_, ?_, ?_, ?_, ?_, fun o => ?_⟩
  all_goals first | (rw [World.cell?_alloc_new]; rfl) | (unfold World.frozen?; rw [heap_alloc_new]; simp)
theorem VBox.keep {w w' : World} {B : Nat} {V : Vt} (h : VBox w B V) (hb : Below w.heap.size w w') : VBox w' B V :=
  ⟨Nat.lt_of_lt_of_le h.lt hb.size, (hb.cell (p := ⟨B, 0, none⟩) h.lt).trans h.c0, (hb.cell (p := ⟨B, 1, none⟩) h.lt).trans h.c1, (hb.cell (p := ⟨B, 2, none⟩) h.lt).trans h.c2, (hb.cell (p := ⟨B, 3, none⟩) h.lt).trans h.c3, (hb.cell (p := ⟨B, 4, none⟩) h.lt).trans h.c4, (hb.cell (p := ⟨B, 5, none⟩) h.lt).trans h.c5, (hb.cell (p := ⟨B, 6, none⟩) h.lt).trans h.c6, (hb.cell (p := ⟨B, 7, none⟩) h.lt).trans h.c7, (hb.cell (p := ⟨B, 8, none⟩) h.lt).trans h.c8, (hb.cell (p := ⟨B, 9, none⟩) h.lt).trans h.c9, (hb.cell (p := ⟨B, 10, none⟩) h.lt).trans h.c10, fun o => (hb.frozen (p := ⟨B, o, none⟩) h.lt).trans (h.f0 o)⟩
theorem VBox.alloc {w : World} {B : Nat} {V : Vt} (h : VBox w B V) (x : Obj) : VBox (w.alloc x) B V := h.keep ((Below.refl _ _).alloc (Nat.le_refl _) x)
theorem VBox.drew {w : World} {B : Nat} {V : Vt} (h : VBox w B V) : VBox w.drew B V := h.keep (Below.refl _ _).drew
theorem VBox.keepN {w w' : World} {B n : Nat} {V : Vt} (h : VBox w B V) (hb : Below n w w') (hn : B < n) : VBox w' B V :=
  ⟨Nat.lt_of_lt_of_le h.lt hb.size, (hb.cell (p := ⟨B, 0, none⟩) hn).trans h.c0, (hb.cell (p := ⟨B, 1, none⟩) hn).trans h.c1, (hb.cell (p := ⟨B, 2, none⟩) hn).trans h.c2, (hb.cell (p := ⟨B, 3, none⟩) hn).trans h.c3, (hb.cell (p := ⟨B, 4, none⟩) hn).trans h.c4, (hb.cell (p := ⟨B, 5, none⟩) hn).trans h.c5, (hb.cell (p := ⟨B, 6, none⟩) hn).trans h.c6, (hb.cell (p := ⟨B, 7, none⟩) hn).trans h.c7, (hb.cell (p := ⟨B, 8, none⟩) hn).trans h.c8, (hb.cell (p := ⟨B, 9, none⟩) hn).trans h.c9, (hb.cell (p := ⟨B, 10, none⟩) hn).trans h.c10, fun o => (hb.frozen (p := ⟨B, o, none⟩) hn).trans (h.f0 o)⟩
end Go.Proofs.YtlbldpkgnonbpaaDoor
