/- Slices of numbers, wherever they begin. -/
import Derived.Test.YtlbldpkgnonbpaaDoorOpen
import Derived.ChangeSlices
import Derived.Laws.AppendOwn
import Derived.Laws.AppendOwnNone
import Derived.WalkKit
namespace Go.Proofs.YtlbldpkgnonbpaaDoor
open Go.ChangeShapes Go.WideShapes Go.ChangeAt Go.RowKit
set_option linter.unusedSimpArgs false
set_option linter.unusedVariables false

theorem add_plain' (s o i : Nat) : (⟨s, o, none⟩ : Addr).add i = ⟨s, o + i, none⟩ := by unfold Addr.add; split <;> simp_all
/-- A slice of numbers of a kind. -/
def ShI (q : IntKind) (w : World) (a : Option Addr) (n : Nat) (xs : List Int) : Prop :=
  (n = 0 ∧ xs = []) ∨ ∃ s o, a = some ⟨s, o, none⟩ ∧ n = xs.length ∧ s < w.heap.size ∧ ∀ i, i < xs.length → w.cell? ⟨s, o + i, none⟩ = some (.int q (xs.getD i 0))
theorem ShI.len {q : IntKind} {w : World} {a : Option Addr} {n : Nat} {xs : List Int} (h : ShI q w a n xs) : n = xs.length := by
  rcases h with ⟨h1, h2⟩ | ⟨s, o, _, h1, _⟩
  · rw [h1, h2]; rfl
  · exact h1
theorem ShI.keep {q : IntKind} {w w' : World} {a : Option Addr} {n : Nat} {xs : List Int} (h : ShI q w a n xs) (hb : Below w.heap.size w w') : ShI q w' a n xs := by
  rcases h with h | ⟨s, o, h0, h1, h2, h3⟩
  · exact .inl h
  · exact .inr ⟨s, o, h0, h1, Nat.lt_of_lt_of_le h2 hb.size, fun i hi => (hb.cell (p := ⟨s, o + i, none⟩) h2).trans (h3 i hi)⟩
theorem ShI.at {q : IntKind} {w : World} {a : Option Addr} {n : Nat} {xs : List Int} (h : ShI q w a n xs) (k : Nat) (hk : k < n) : ∃ s o, a = some ⟨s, o, none⟩ ∧ s < w.heap.size ∧ w.cell? ⟨s, o + k, none⟩ = some (.int q (xs.getD k 0)) ∧ xs.getD k 0 ∈ xs := by
  rcases h with ⟨h1, _⟩ | ⟨s, o, h0, h1, h2, h3⟩
  · omega
  · refine ⟨s, o, h0, h2, h3 k (by omega), ?_⟩
    have hkl : k < xs.length := by omega
    rw [List.getD_eq_getElem?_getD, List.getElem?_eq_getElem hkl, Option.getD_some]
    exact List.getElem_mem hkl
section
variable {H : Type} {enc : TypeId × Value → H} {w : World} {base : Nat} {held : Bool} {r : Reach} {b0 : Nat} {v : Value} {d : DataW H} {p : List MemPlace}
theorem open_nums {P : Program} {t e : TypeId} {q : IntKind} (ht : P.underlying t = some (.slice e)) (he : P.underlying e = some (.int q)) (hc1 : P.cellsOf e = 1) (hv : Value.okWide P w r b0 t v) (h : DataW.Trod enc P w base (fun _ => true) held t v d p) :
    ∃ a n c xs, v = .slice a n c ∧ ShI q w a n xs ∧ (∀ x, x ∈ xs → (Lit.int q x).wf = true) ∧ (a = none → c = 0) ∧ n ≤ c := by
  obtain ⟨a0, l0, c0, rfl⟩ := okWide_slice ht hv
  obtain ⟨fuel, hf⟩ := h
  rcases open_ints ht he hc1 hf with ⟨hcs, -⟩ | ⟨a, len, cap, zs, hcs, -, hl, hm, hz, -, hcell, hw⟩
  · simp [Value.cells] at hcs
    obtain ⟨rfl, rfl, rfl⟩ := hcs
    exact ⟨none, 0, 0, [], rfl, .inl ⟨rfl, rfl⟩, (fun q hq => by cases hq), (fun _ => rfl), Nat.le_refl _⟩
  · simp [Value.cells] at hcs
    obtain ⟨rfl, rfl, rfl⟩ := hcs
    have hmc : zs.length = c0 := by simpa using hz
    by_cases hl0 : l0 = 0
    · subst hl0
      exact ⟨_, _, _, [], rfl, .inl ⟨rfl, rfl⟩, (fun q hq => by cases hq), (fun h => by cases h), hl⟩
    · obtain ⟨b, off, spot⟩ := a
      have g0 := hcell 0 (by omega)
      have hspot : spot = none := by simpa [Addr.add] using World.cell?_spot g0
      subst hspot
      have hlt : b < w.heap.size := by
        have := World.block_lt_of_cell? w _ g0
        simpa [add_plain'] using this
      refine ⟨_, _, _, zs.take l0, rfl, .inr ⟨b, off, rfl, by simp; omega, hlt, fun i hi => ?_⟩, fun z hz => hw z (List.mem_of_mem_take hz), (fun h => by cases h), hl⟩
      have hi' : i < l0 ∧ i < zs.length := by simp at hi; omega
      have e : (zs.take l0).getD i 0 = zs.getD i 0 := by simp [List.getD_eq_getElem?_getD, List.getElem?_take, hi'.1]
      rw [e, ← add_plain']; exact hcell i hi'.2
set_option maxRecDepth 100000 in
theorem open_u64s (hv : Value.okWide Tryd.prog w r b0 55 v) (h : DataW.Trod enc Tryd.prog w base (fun _ => true) held 55 v d p) :
    ∃ a n c xs, v = .slice a n c ∧ ShI .u64 w a n xs ∧ (∀ x, x ∈ xs → U64 x) ∧ (a = none → c = 0) ∧ n ≤ c := by
  obtain ⟨a, n, c, xs, h1, h2, h3, h4, h5⟩ := open_nums Tryd.underlying55 Tryd.underlying24 (by kernel_rfl) hv h
  exact ⟨a, n, c, xs, h1, h2, fun x hx => U64.wf (h3 x hx), h4, h5⟩
end
theorem ShI.nil (q : IntKind) (w : World) (a : Option Addr) : ShI q w a 0 [] := .inl ⟨rfl, rfl⟩
theorem ShI.cells {q : IntKind} {w : World} {ad : Addr} {n : Nat} {xs : List Int} (h : ShI q w (some ad) n xs) : ∀ j u, (xs.map (Value.int q))[j]? = some u → w.cell? (ad.add j) = some u := by
  rcases h with ⟨_, h⟩ | ⟨s, o, h0, h1, h2, h3⟩
  · subst h; intro j u hj; simp at hj
  · cases h0
    intro j u hj
    have hl : j < xs.length := by simpa using (List.getElem?_eq_some_iff.1 hj).1
    rw [add_plain', h3 j hl]
    rw [List.getElem?_map, List.getElem?_eq_getElem hl] at hj
    rw [List.getD_eq_getElem?_getD, List.getElem?_eq_getElem hl]
    simpa using hj
theorem ShI.of_owned {q : IntKind} {w : World} {base : Nat} {e : TypeId} {v : Value} {n : Nat} {xs : List Int} (h : w.ownsRow base e 1 v n (xs.map (Value.int q))) : ∃ a c, v = .slice a n c ∧ ShI q w a n xs := by
  have hl := h.1
  rw [List.length_map, Nat.mul_one] at hl
  rcases h.2 with ⟨rfl, h0⟩ | ⟨g, cap, cur, rfl, hb, hg, _⟩
  · subst h0
    have : xs = [] := List.eq_nil_of_length_eq_zero hl
    subst this
    exact ⟨none, 0, rfl, ShI.nil _ w _⟩
  · refine ⟨_, _, rfl, .inr ⟨g, 0, rfl, hl.symm, (h.lt g rfl).2, fun i hi => ?_⟩⟩
    have hc := h.cells (g := g) rfl i (.int q (xs.getD i 0)) (by
      rw [List.getElem?_map, List.getElem?_eq_getElem hi, List.getD_eq_getElem?_getD, List.getElem?_eq_getElem hi]; rfl)
    rw [add_plain'] at hc
    exact hc
end Go.Proofs.YtlbldpkgnonbpaaDoor
