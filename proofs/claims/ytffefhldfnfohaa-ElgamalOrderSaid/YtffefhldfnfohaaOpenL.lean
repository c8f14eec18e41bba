/- How slices among the arguments are opened: ciphertexts, numbers, bytes. -/
import Derived.Test.YtffefhldfnfohaaOpenS
import Derived.Test.YtffefhldfnfohaaListS
import Derived.Deep.SlicePairs
import Derived.ChangeSlices
namespace Go.Proofs.Ytffefhldfnfohaa
open Go.ChangeShapes Go.WideShapes Go.ChangeAt Go.RowKit
set_option linter.unusedSimpArgs false
set_option linter.unusedVariables false
section
variable {H : Type} {enc : TypeId × Value → H} {w : World} {base : Nat} {held : Bool} {r : Reach} {b0 : Nat} {v : Value} {d : DataW H} {p : List MemPlace}
theorem open_sealeds (hv : Value.okWide Try.prog w r b0 27 v) (h : DataW.Trod enc Try.prog w base (fun _ => true) held 27 v d p) :
    ∃ a n c ps, v = .slice a n c ∧ ShS w a n ps ∧ (∀ q, q ∈ ps → U64 q.1 ∧ U64 q.2) ∧ (a = none → c = 0) ∧ n ≤ c := by
  obtain ⟨a0, l0, c0, rfl⟩ := okWide_slice Try.underlying27 hv
  obtain ⟨fuel, hf⟩ := h
  rcases Deep.open_slice_pairs Try.underlying27 Try.underlying26 (by kernel_rfl) rfl rfl (by kernel_rfl) (by kernel_rfl) hf with ⟨hcs, -⟩ | ⟨a, len, cap, m, n, V0, V1, D0, D1, P0, P1, hcs, -, hl, hm, hmm, -, hx⟩
  · simp [Value.cells] at hcs
    obtain ⟨rfl, rfl, rfl⟩ := hcs
    exact ⟨none, 0, 0, [], rfl, ShS.nil w _, (fun q hq => by cases hq), (fun _ => rfl), Nat.le_refl _⟩
  · simp [Value.cells] at hcs
    obtain ⟨rfl, rfl, rfl⟩ := hcs
    have hmc : m = c0 := by simpa using hmm
    have each : ∀ i, i < l0 → ∃ q : Int × Int, V0 i = .int .u64 q.1 ∧ V1 i = .int .u64 q.2 ∧ U64 q.1 ∧ U64 q.2 := by
      intro i hi
      obtain ⟨-, -, h0, h1⟩ := hx i (by omega)
      obtain ⟨x, e0, -, wx⟩ := DataW.trod_int Try.underlying22 h0
      obtain ⟨y, e1, -, wy⟩ := DataW.trod_int Try.underlying22 h1
      simp at e0 e1
      exact ⟨(x, y), e0, e1, U64.wf wx, U64.wf wy⟩
    obtain ⟨q, hq⟩ := Deep.choose_lt each
    by_cases hl0 : l0 = 0
    · subst hl0
      exact ⟨_, _, _, [], rfl, ShS.nil w _, (fun q hq => by cases hq), (fun h => by cases h), hl⟩
    · obtain ⟨b, off, spot⟩ := a
      have g0 := (hx 0 (by omega)).1
      have hspot : spot = none := by simpa [Addr.add] using World.cell?_spot g0
      subst hspot
      have hcell : ∀ i, i < l0 → w.cell? ⟨b, off + i * 2, none⟩ = some (.int .u64 (q i).1) ∧ w.cell? ⟨b, off + i * 2 + 1, none⟩ = some (.int .u64 (q i).2) := by
        intro i hi
        obtain ⟨h0, h1, -, -⟩ := hx i (by omega)
        obtain ⟨e0, e1, -, -⟩ := hq i hi
        rw [e0] at h0
        rw [e1] at h1
        rw [add_plain] at h0 h1
        exact ⟨h0, by rw [Nat.add_assoc]; exact h1⟩
      have hlt : b < w.heap.size := by
        have := (hcell 0 (by omega)).1
        exact World.block_lt_of_cell? w _ this
      refine ⟨_, _, _, (List.range l0).map q, rfl, .inr ⟨b, off, rfl, by simp, hlt, fun i hi => ?_⟩, fun z hz => ?_, (fun h => by cases h), hl⟩
      · have hi' : i < l0 := by simpa using hi
        have e : ((List.range l0).map q).getD i (0, 0) = q i := by simp [List.getD_eq_getElem?_getD, hi']
        rw [e]; exact hcell i hi'
      · obtain ⟨i, hi, rfl⟩ := List.mem_map.1 hz
        obtain ⟨-, -, h1, h2⟩ := hq i (by simpa using hi)
        exact ⟨h1, h2⟩
end
end Go.Proofs.Ytffefhldfnfohaa
