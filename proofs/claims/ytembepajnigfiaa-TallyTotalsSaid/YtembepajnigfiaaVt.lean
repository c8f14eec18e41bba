/- Votes: how they lie, and how lists of them among the arguments are opened. -/
import Derived.Test.YtembepajnigfiaaListS
import Derived.Test.YtembepajnigfiaaOpenL
import Derived.Test.YtembepajnigfiaaOpenP
import Derived.Deep.Slices
namespace Go.Proofs.Ytembepajnigfiaa
open Go.ChangeShapes Go.WideShapes Go.ChangeAt Go.RowKit Num
set_option linter.unusedSimpArgs false
set_option linter.unusedVariables false

/-- The numbers of a bit proof. -/
structure Bt where
  r0 : Int
  r1 : Int
  s0 : Int
  s1 : Int
  c0 : Int
  c1 : Int
  z0 : Int
  z1 : Int
def Bt.vs (x : Bt) : List Value := [.int .u64 x.r0, .int .u64 x.r1, .int .u64 x.s0, .int .u64 x.s1, .int .u64 x.c0, .int .u64 x.c1, .int .u64 x.z0, .int .u64 x.z1]
def Bt.u (x : Bt) : Prop := U64 x.r0 ∧ U64 x.r1 ∧ U64 x.s0 ∧ U64 x.s1 ∧ U64 x.c0 ∧ U64 x.c1 ∧ U64 x.z0 ∧ U64 x.z1
def Bt.zero : Bt := ⟨0, 0, 0, 0, 0, 0, 0, 0⟩
instance : Inhabited Bt := ⟨Bt.zero⟩
/-- A slice of bit proofs. -/
def ShB (w : World) (a : Option Addr) (n : Nat) (ps : List Bt) : Prop :=
  (n = 0 ∧ ps = []) ∨ ∃ s o, a = some ⟨s, o, none⟩ ∧ n = ps.length ∧ s < w.heap.size ∧ ∀ i, i < ps.length → ∀ k u, (ps.getD i Bt.zero).vs[k]? = some u → w.cell? ⟨s, o + i * 8 + k, none⟩ = some u
theorem ShB.len {w : World} {a : Option Addr} {n : Nat} {ps : List Bt} (h : ShB w a n ps) : n = ps.length := by
  rcases h with ⟨h1, h2⟩ | ⟨s, o, _, h1, _⟩
  · rw [h1, h2]; rfl
  · exact h1
theorem ShB.keep {w w' : World} {a : Option Addr} {n : Nat} {ps : List Bt} (h : ShB w a n ps) (hb : Below w.heap.size w w') : ShB w' a n ps := by
  rcases h with h | ⟨s, o, h0, h1, h2, h3⟩
  · exact .inl h
  · exact .inr ⟨s, o, h0, h1, Nat.lt_of_lt_of_le h2 hb.size, fun i hi k u hu => (hb.cell (p := ⟨s, o + i * 8 + k, none⟩) h2).trans (h3 i hi k u hu)⟩
/-- A vote: its two slices, its flag, its last proof. -/
structure Vt where
  a : Option Addr
  n : Nat
  c : Nat
  bs : List (Int × Int)
  b : Option Addr
  m : Nat
  d : Nat
  ps : List Bt
  one : Bool
  z : Bt
instance : Inhabited Vt := ⟨⟨none, 0, 0, [], none, 0, 0, [], false, Bt.zero⟩⟩
def Vt.vs (V : Vt) : List Value := [.slice V.a V.n V.c, .slice V.b V.m V.d, .bool V.one] ++ V.z.vs
def Vt.v (V : Vt) : Value := .agg #[.slice V.a V.n V.c, .slice V.b V.m V.d, .bool V.one, .int .u64 V.z.r0, .int .u64 V.z.r1, .int .u64 V.z.s0, .int .u64 V.z.s1, .int .u64 V.z.c0, .int .u64 V.z.c1, .int .u64 V.z.z0, .int .u64 V.z.z1]
structure VtIn (w : World) (V : Vt) : Prop where
  h1 : ShS w V.a V.n V.bs
  u1 : ∀ q, q ∈ V.bs → U64 q.1 ∧ U64 q.2
  k1 : V.a = none → V.c = 0
  h2 : ShB w V.b V.m V.ps
  u2 : ∀ q, q ∈ V.ps → q.u
  k2 : V.b = none → V.d = 0
  uz : V.z.u
theorem VtIn.keep {w w' : World} {V : Vt} (h : VtIn w V) (hb : Below w.heap.size w w') : VtIn w' V := ⟨h.h1.keep hb, h.u1, h.k1, h.h2.keep hb, h.u2, h.k2, h.uz⟩
/-- A slice of votes. -/
structure VRow (w : World) (s o : Nat) (l : List Vt) : Prop where
  lt : s < w.heap.size
  c : ∀ i (h : i < l.length), ∀ k u, l[i].vs[k]? = some u → w.cell? ⟨s, o + i * 11 + k, none⟩ = some u
  ok : ∀ V, V ∈ l → VtIn w V
theorem VRow.keep {w w' : World} {s o : Nat} {l : List Vt} (h : VRow w s o l) (hb : Below w.heap.size w w') : VRow w' s o l :=
  ⟨Nat.lt_of_lt_of_le h.lt hb.size, fun i hi k u hu => (hb.cell (p := ⟨s, o + i * 11 + k, none⟩) h.lt).trans (h.c i hi k u hu), fun V hV => (h.ok V hV).keep hb⟩
def ShV (w : World) (a : Option Addr) (n : Nat) (l : List Vt) : Prop := (n = 0 ∧ l = []) ∨ ∃ s o, a = some ⟨s, o, none⟩ ∧ n = l.length ∧ VRow w s o l
theorem ShV.len {w : World} {a : Option Addr} {n : Nat} {l : List Vt} (h : ShV w a n l) : n = l.length := by
  rcases h with ⟨h1, h2⟩ | ⟨s, o, _, h1, _⟩
  · rw [h1, h2]; rfl
  · exact h1
theorem ShV.keep {w w' : World} {a : Option Addr} {n : Nat} {l : List Vt} (h : ShV w a n l) (hb : Below w.heap.size w w') : ShV w' a n l := by
  rcases h with h | ⟨s, o, h0, h1, h2⟩
  · exact .inl h
  · exact .inr ⟨s, o, h0, h1, h2.keep hb⟩
theorem ShV.nil (w : World) (a : Option Addr) : ShV w a 0 [] := .inl ⟨rfl, rfl⟩
/-- The eleven cells of one. -/
structure VCells (w : World) (s p : Nat) (V : Vt) : Prop where
  lt : s < w.heap.size
  c0 : w.cell? ⟨s, p, none⟩ = some (.slice V.a V.n V.c)
  c1 : w.cell? ⟨s, p + 1, none⟩ = some (.slice V.b V.m V.d)
  c2 : w.cell? ⟨s, p + 2, none⟩ = some (.bool V.one)
  c3 : w.cell? ⟨s, p + 3, none⟩ = some (.int .u64 V.z.r0)
  c4 : w.cell? ⟨s, p + 4, none⟩ = some (.int .u64 V.z.r1)
  c5 : w.cell? ⟨s, p + 5, none⟩ = some (.int .u64 V.z.s0)
  c6 : w.cell? ⟨s, p + 6, none⟩ = some (.int .u64 V.z.s1)
  c7 : w.cell? ⟨s, p + 7, none⟩ = some (.int .u64 V.z.c0)
  c8 : w.cell? ⟨s, p + 8, none⟩ = some (.int .u64 V.z.c1)
  c9 : w.cell? ⟨s, p + 9, none⟩ = some (.int .u64 V.z.z0)
  c10 : w.cell? ⟨s, p + 10, none⟩ = some (.int .u64 V.z.z1)
theorem VCells.keep {w w' : World} {s p : Nat} {V : Vt} (h : VCells w s p V) (hb : Below w.heap.size w w') : VCells w' s p V :=
  ⟨Nat.lt_of_lt_of_le h.lt hb.size, (hb.cell (p := ⟨s, p, none⟩) h.lt).trans h.c0, (hb.cell (p := ⟨s, p + 1, none⟩) h.lt).trans h.c1, (hb.cell (p := ⟨s, p + 2, none⟩) h.lt).trans h.c2, (hb.cell (p := ⟨s, p + 3, none⟩) h.lt).trans h.c3, (hb.cell (p := ⟨s, p + 4, none⟩) h.lt).trans h.c4, (hb.cell (p := ⟨s, p + 5, none⟩) h.lt).trans h.c5, (hb.cell (p := ⟨s, p + 6, none⟩) h.lt).trans h.c6, (hb.cell (p := ⟨s, p + 7, none⟩) h.lt).trans h.c7, (hb.cell (p := ⟨s, p + 8, none⟩) h.lt).trans h.c8, (hb.cell (p := ⟨s, p + 9, none⟩) h.lt).trans h.c9, (hb.cell (p := ⟨s, p + 10, none⟩) h.lt).trans h.c10⟩
theorem VRow.at {w : World} {s o : Nat} {l : List Vt} (h : VRow w s o l) (i : Nat) (hi : i < l.length) : VCells w s (o + i * 11) l[i] :=
  have g := h.c i hi
  ⟨h.lt, g 0 _ rfl, g 1 _ rfl, g 2 _ rfl, g 3 _ rfl, g 4 _ rfl, g 5 _ rfl, g 6 _ rfl, g 7 _ rfl, g 8 _ rfl, g 9 _ rfl, g 10 _ rfl⟩
theorem ShV.at {w : World} {a : Option Addr} {n : Nat} {l : List Vt} (h : ShV w a n l) (k : Nat) (hk : k < n) : ∃ s o V, a = some ⟨s, o, none⟩ ∧ l[k]? = some V ∧ VCells w s (o + k * 11) V ∧ VtIn w V := by
  rcases h with ⟨h1, _⟩ | ⟨s, o, h0, h1, h2⟩
  · omega
  · have hl : k < l.length := by omega
    exact ⟨s, o, l[k], h0, List.getElem?_eq_getElem hl, h2.at k hl, h2.ok _ (List.getElem_mem hl)⟩
theorem ShV.drop {w : World} {ad : Addr} {n : Nat} {l : List Vt} (h : ShV w (some ad) n l) (m : Nat) : ShV w (some (ad.add (m * 11))) (n - m) (l.drop m) := by
  rcases h with ⟨h, h'⟩ | ⟨s', o', h0, h1, h2⟩
  · exact .inl ⟨by omega, by rw [h']; simp⟩
  · cases h0
    refine .inr ⟨s', o' + m * 11, by rw [add_pl], by simp [h1], h2.lt, fun i hi k u hu => ?_, fun V hV => h2.ok V (List.mem_of_mem_drop hV)⟩
    have hi' : m + i < l.length := by simp at hi; omega
    rw [List.getElem_drop] at hu
    have := h2.c (m + i) hi' k u hu
    rwa [show o' + (m + i) * 11 + k = o' + m * 11 + i * 11 + k by omega] at this
theorem ShV.take {w : World} {a : Option Addr} {n : Nat} {l : List Vt} (h : ShV w a n l) (m : Nat) (hm : m ≤ n) : ShV w a m (l.take m) := by
  rcases h with ⟨h, h'⟩ | ⟨s', o', h0, h1, h2⟩
  · exact .inl ⟨by omega, by rw [h']; simp⟩
  · refine .inr ⟨s', o', h0, by simp; omega, h2.lt, fun i hi k u hu => ?_, fun V hV => h2.ok V (List.mem_of_mem_take hV)⟩
    have hi' : i < l.length := by simp at hi; omega
    rw [List.getElem_take] at hu
    exact h2.c i hi' k u hu

section
variable {H : Type} {enc : TypeId × Value → H} {w : World} {base : Nat} {held : Bool} {r : Reach} {b0 : Nat} {v : Value} {d : DataW H} {p : List MemPlace}
theorem list11 : ∀ (l : List Value), l.length = 11 → ∃ a b c d e f g i j k m, l = [a, b, c, d, e, f, g, i, j, k, m]
  | [a, b, c, d, e, f, g, i, j, k, m], _ => ⟨a, b, c, d, e, f, g, i, j, k, m, rfl⟩
set_option maxRecDepth 100000 in
theorem bit_cells {spare : Nat → Bool} {fuel : Nat} {cs : List Value} {x : DataW H × List MemPlace} (h2 : cs.length = 8) (hf : DataW.trod enc Try.prog w base spare held fuel 31 cs = some x) : ∃ z : Bt, cs = z.vs ∧ z.u := by
  obtain ⟨x0, x1, x2, x3, x4, x5, x6, x7, hl⟩ := list8 _ h2
  rw [hl] at hf
  obtain ⟨xs, k, hk, hxy, _, hxl, hff⟩ := DataW.trod_struct Try.underlying31 hf
  match xs, hxl with
  | [y0, y1, y2, y3], _ =>
    have c39 : Try.prog.cellsOf 29 = 2 := by kernel_rfl
    have g0 := hff 0 _ rfl
    have g1 := hff 1 _ rfl
    have g2 := hff 2 _ rfl
    have g3 := hff 3 _ rfl
    simp [c39] at g0 g1 g2 g3
    obtain ⟨r0, r1, rfl, rfl, u0, u1⟩ := arr2 Try.underlying29 Try.underlying22 (by kernel_rfl) g0
    obtain ⟨s0, s1, rfl, rfl, u2, u3⟩ := arr2 Try.underlying29 Try.underlying22 (by kernel_rfl) g1
    obtain ⟨c0, c1, rfl, rfl, u4, u5⟩ := arr2 Try.underlying29 Try.underlying22 (by kernel_rfl) g2
    obtain ⟨z0, z1, rfl, rfl, u6, u7⟩ := arr2 Try.underlying29 Try.underlying22 (by kernel_rfl) g3
    exact ⟨⟨r0, r1, s0, s1, c0, c1, z0, z1⟩, hl, u0, u1, u2, u3, u4, u5, u6, u7⟩
theorem sealeds_cells {fuel : Nat} {v0 : Value} {y : DataW H × List MemPlace} (hf : DataW.trod enc Try.prog w base (fun _ => true) held fuel 27 [v0] = some y) :
    ∃ a n c ps, v0 = .slice a n c ∧ ShS w a n ps ∧ (∀ q, q ∈ ps → U64 q.1 ∧ U64 q.2) ∧ (a = none → c = 0) ∧ n ≤ c := by
  rcases Deep.open_slice_pairs Try.underlying27 Try.underlying45 (by kernel_rfl) rfl rfl (by kernel_rfl) (by kernel_rfl) hf with ⟨hcs, -⟩ | ⟨a, l0, c0, m, n, V0, V1, D0, D1, P0, P1, hcs, -, hl, hm, hmm, -, hx⟩
  · simp at hcs
    exact ⟨none, 0, 0, [], hcs, ShS.nil w _, (fun q hq => by cases hq), (fun _ => rfl), Nat.le_refl _⟩
  · simp at hcs
    subst hcs
    have hmc : m = c0 := by simpa using hmm
    have each : ∀ i, i < l0 → ∃ q : Int × Int, V0 i = .int .u64 q.1 ∧ V1 i = .int .u64 q.2 ∧ U64 q.1 ∧ U64 q.2 := by
      intro i hi
      obtain ⟨-, -, h0, h1⟩ := hx i (by omega)
      obtain ⟨x, e0, -, wx⟩ := DataW.trod_int Try.underlying22 h0
      obtain ⟨y, e1, -, wy⟩ := DataW.trod_int Try.underlying22 h1
      simp at e0 e1
      exact ⟨(x, y), e0, e1, U64.wf wx, U64.wf wy⟩
    obtain ⟨q, hq⟩ := Deep.choose_lt each
    by_cases hl0 : l0 = 0
    · subst hl0
      exact ⟨_, _, _, [], rfl, ShS.nil w _, (fun q hq => by cases hq), (fun h => by cases h), hl⟩
    · obtain ⟨b, off, spot⟩ := a
      have g0 := (hx 0 (by omega)).1
      have hspot : spot = none := by simpa [Addr.add] using World.cell?_spot g0
      subst hspot
      have hcell : ∀ i, i < l0 → w.cell? ⟨b, off + i * 2, none⟩ = some (.int .u64 (q i).1) ∧ w.cell? ⟨b, off + i * 2 + 1, none⟩ = some (.int .u64 (q i).2) := by
        intro i hi
        obtain ⟨h0, h1, -, -⟩ := hx i (by omega)
        obtain ⟨e0, e1, -, -⟩ := hq i hi
        rw [e0] at h0
        rw [e1] at h1
        rw [add_pl] at h0 h1
        exact ⟨h0, by rw [Nat.add_assoc]; exact h1⟩
      have hlt : b < w.heap.size := World.block_lt_of_cell? w _ (hcell 0 (by omega)).1
      refine ⟨_, _, _, (List.range l0).map q, rfl, .inr ⟨b, off, rfl, by simp, hlt, fun i hi => ?_⟩, fun z hz => ?_, (fun h => by cases h), hl⟩
      · have hi' : i < l0 := by simpa using hi
        have e : ((List.range l0).map q).getD i (0, 0) = q i := by simp [List.getD_eq_getElem?_getD, hi']
        rw [e]; exact hcell i hi'
      · obtain ⟨i, hi, rfl⟩ := List.mem_map.1 hz
        obtain ⟨-, -, h1, h2⟩ := hq i (by simpa using hi)
        exact ⟨h1, h2⟩
theorem bits_cells {fuel : Nat} {v0 : Value} {y : DataW H × List MemPlace} (hf : DataW.trod enc Try.prog w base (fun _ => true) held fuel 28 [v0] = some y) :
    ∃ a n c ps, v0 = .slice a n c ∧ ShB w a n ps ∧ (∀ q, q ∈ ps → q.u) ∧ (a = none → c = 0) ∧ n ≤ c := by
  have c8 : Try.prog.cellsOf 31 = 8 := by kernel_rfl
  rcases Deep.open_slice Try.underlying28 hf with ⟨hcs, -⟩ | ⟨a, l0, c0, m, n, D, Pl, hcs, -, hl, hm, hmm, -, hx⟩
  · simp at hcs
    exact ⟨none, 0, 0, [], hcs, .inl ⟨rfl, rfl⟩, (fun q hq => by cases hq), (fun _ => rfl), Nat.le_refl _⟩
  · simp at hcs
    subst hcs
    have hmc : m = c0 := by simpa using hmm
    have each : ∀ i, i < l0 → ∃ q : Bt, (∀ k u, q.vs[k]? = some u → w.cell? (a.add (i * 8 + k)) = some u) ∧ q.u := by
      intro i hi
      obtain ⟨cs', h1, h2⟩ := hx i (by omega)
      rw [c8] at h1
      obtain ⟨_, hlen, hcell⟩ := World.cells?_some h1
      obtain ⟨z, rfl, hz⟩ := bit_cells hlen h2
      refine ⟨z, fun k u hu => ?_, hz⟩
      have hk : k < 8 := by have := (List.getElem?_eq_some_iff.1 hu).1; simpa [Bt.vs] using this
      have := hcell k hk
      rw [Deep.add_add] at this
      rw [this]; exact hu
    obtain ⟨q, hq⟩ := Deep.choose_lt each
    by_cases hl0 : l0 = 0
    · subst hl0
      exact ⟨_, _, _, [], rfl, .inl ⟨rfl, rfl⟩, (fun q hq => by cases hq), (fun h => by cases h), hl⟩
    · obtain ⟨b, off, spot⟩ := a
      have g0 := (hq 0 (by omega)).1 0 _ rfl
      have hspot : spot = none := by simpa [Addr.add] using World.cell?_spot g0
      subst hspot
      have hlt : b < w.heap.size := by have := World.block_lt_of_cell? w _ g0; simpa [add_pl] using this
      refine ⟨_, _, _, (List.range l0).map q, rfl, .inr ⟨b, off, rfl, by simp, hlt, fun i hi k u hu => ?_⟩, fun z hz => ?_, (fun h => by cases h), hl⟩
      · have hi' : i < l0 := by simpa using hi
        have e : ((List.range l0).map q).getD i Bt.zero = q i := by simp [List.getD_eq_getElem?_getD, hi']
        rw [e] at hu
        have := (hq i hi').1 k u hu
        rwa [add_pl, ← Nat.add_assoc] at this
      · obtain ⟨i, hi, rfl⟩ := List.mem_map.1 hz
        exact (hq i (by simpa using hi)).2
set_option maxRecDepth 100000 in
theorem vote_cells {fuel : Nat} {cs : List Value} {x : DataW H × List MemPlace} (h2 : cs.length = 11) (hf : DataW.trod enc Try.prog w base (fun _ => true) held fuel 33 cs = some x) : ∃ V : Vt, cs = V.vs ∧ VtIn w V := by
  obtain ⟨x0, x1, x2, x3, x4, x5, x6, x7, x8, x9, x10, hl⟩ := list11 _ h2
  rw [hl] at hf
  obtain ⟨xs, k, hk, hxy, _, hxl, hff⟩ := DataW.trod_struct Try.underlying33 hf
  match xs, hxl with
  | [y0, y1, y2, y3], _ =>
    have c8 : Try.prog.cellsOf 31 = 8 := by kernel_rfl
    have c1 : Try.prog.cellsOf 27 = 1 := by kernel_rfl
    have c2 : Try.prog.cellsOf 28 = 1 := by kernel_rfl
    have c3 : Try.prog.cellsOf 4 = 1 := by kernel_rfl
    have g0 := hff 0 _ rfl
    have g1 := hff 1 _ rfl
    have g2 := hff 2 _ rfl
    have g3 := hff 3 _ rfl
    simp [c8, c1, c2, c3] at g0 g1 g2 g3
    obtain ⟨a, n, c, bs, rfl, q1, q2, q3, -⟩ := sealeds_cells g0
    obtain ⟨b, m, d, ps, rfl, q4, q5, q6, -⟩ := bits_cells g1
    obtain ⟨one, e2, -⟩ := DataW.trod_bool Try.underlying4 g2
    obtain ⟨z, e3, hz⟩ := bit_cells rfl g3
    simp at e2
    subst e2
    refine ⟨⟨a, n, c, bs, b, m, d, ps, one, z⟩, ?_, q1, q2, q3, q4, q5, q6, hz⟩
    rw [hl]
    simp [Vt.vs, ← e3]
theorem votes_cells {fuel : Nat} {v0 : Value} {y : DataW H × List MemPlace} (hf : DataW.trod enc Try.prog w base (fun _ => true) held fuel 25 [v0] = some y) :
    ∃ a n c l, v0 = .slice a n c ∧ ShV w a n l ∧ (a = none → c = 0) ∧ n ≤ c := by
  have c11 : Try.prog.cellsOf 33 = 11 := by kernel_rfl
  rcases Deep.open_slice Try.underlying25 hf with ⟨hcs, -⟩ | ⟨a, l0, c0, m, n, D, Pl, hcs, -, hl, hm, hmm, -, hx⟩
  · simp at hcs
    exact ⟨none, 0, 0, [], hcs, ShV.nil _ _, (fun _ => rfl), Nat.le_refl _⟩
  · simp at hcs
    subst hcs
    have hmc : m = c0 := by simpa using hmm
    have each : ∀ i, i < l0 → ∃ V : Vt, (∀ k u, V.vs[k]? = some u → w.cell? (a.add (i * 11 + k)) = some u) ∧ VtIn w V := by
      intro i hi
      obtain ⟨cs', h1, h2⟩ := hx i (by omega)
      rw [c11] at h1
      obtain ⟨_, hlen, hcell⟩ := World.cells?_some h1
      obtain ⟨V, rfl, hz⟩ := vote_cells hlen h2
      refine ⟨V, fun k u hu => ?_, hz⟩
      have hk : k < 11 := by have := (List.getElem?_eq_some_iff.1 hu).1; simpa [Vt.vs, Bt.vs] using this
      have := hcell k hk
      rw [Deep.add_add] at this
      rw [this]; exact hu
    obtain ⟨q, hq⟩ := Deep.choose_lt each
    by_cases hl0 : l0 = 0
    · subst hl0
      exact ⟨_, _, _, [], rfl, ShV.nil _ _, (fun h => by cases h), hl⟩
    · obtain ⟨b, off, spot⟩ := a
      have g0 := (hq 0 (by omega)).1 0 _ rfl
      have hspot : spot = none := by simpa [Addr.add] using World.cell?_spot g0
      subst hspot
      have hlt : b < w.heap.size := by have := World.block_lt_of_cell? w _ g0; simpa [add_pl] using this
      refine ⟨_, _, _, (List.range l0).map q, rfl, .inr ⟨b, off, rfl, by simp, hlt, fun i hi k u hu => ?_, fun V hV => ?_⟩, (fun h => by cases h), hl⟩
      · have hi' : i < l0 := by simpa using hi
        have e : ((List.range l0).map q)[i] = q i := by simp
        rw [e] at hu
        have := (hq i hi').1 k u hu
        rwa [add_pl, ← Nat.add_assoc] at this
      · obtain ⟨i, hi, rfl⟩ := List.mem_map.1 hV
        exact (hq i (by simpa using hi)).2
theorem open_votes (hv : Value.okWide Try.prog w r b0 25 v) (h : DataW.Trod enc Try.prog w base (fun _ => true) held 25 v d p) :
    ∃ a n c l, v = .slice a n c ∧ ShV w a n l ∧ (a = none → c = 0) ∧ n ≤ c := by
  obtain ⟨a0, l0, c0, rfl⟩ := okWide_slice Try.underlying25 hv
  obtain ⟨fuel, hf⟩ := h
  exact votes_cells hf
end
end Go.Proofs.Ytembepajnigfiaa
