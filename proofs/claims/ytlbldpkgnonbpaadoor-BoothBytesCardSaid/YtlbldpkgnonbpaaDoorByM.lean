/- A vote among the arguments. -/
import Derived.Test.YtlbldpkgnonbpaaDoorByL
import Derived.Test.YtlbldpkgnonbpaaDoorCardP
namespace Go.Proofs.YtlbldpkgnonbpaaDoor
open Go Go.ChangeShapes Go.WideShapes Go.ChangeAt Go.RowKit Num Sha
set_option linter.unusedSimpArgs false
set_option linter.unusedVariables false
set_option maxRecDepth 100000 in
theorem open_vote {H : Type} {enc : TypeId × Value → H} {w : World} {base : Nat} {held : Bool} {r : Reach} {b0 : Nat} {v : Value} {d : DataW H} {p : List MemPlace} (hv : Value.okWide Tryd.prog w r b0 29 v) (h : DataW.Trod enc Tryd.prog w base (fun _ => true) held 29 v d p) :
    ∃ V : Vt, v = V.v ∧ VtIn w V := by
  obtain ⟨cs, rfl, hsz⟩ := okWide_struct Tryd.underlying29 hv
  obtain ⟨fuel, hf⟩ := h
  simp only [Value.cells] at hf
  have h2 : cs.toList.length = 11 := by rw [Array.length_toList, hsz]; kernel_rfl
  obtain ⟨V, hl, hV⟩ := vote_cells h2 hf
  refine ⟨V, ?_, hV⟩
  unfold Vt.v
  congr 1
  exact Array.toList_inj.1 hl
end Go.Proofs.YtlbldpkgnonbpaaDoor
