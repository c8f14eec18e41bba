/- How a digest, an array of 32 bytes, is opened. -/
import Derived.Test.YtjdfjgphjdcnmaaOpen
import Derived.Test.YtjdfjgphjdcnmaaFromD
namespace Go.Proofs.Ytjdfjgphjdcnmaa
open Go.ChangeShapes Go.WideShapes Go.ChangeAt Go.RowKit

theorem okWide_array {P : Program} {w : World} {r : Reach} {b0 : Nat} {t : TypeId} {n : Nat} {e : TypeId} {v : Value} (ht : P.underlying t = some (.array n e)) (h : Value.okWide P w r b0 t v) : ∃ cs, v = .agg cs ∧ cs.size = P.cellsOf t := by
  unfold Value.okWide at h
  rw [ht] at h
  obtain ⟨cs, h1, h2, _⟩ := h
  exact ⟨cs, h1, h2⟩

section
variable {H : Type} {enc : TypeId × Value → H} {w : World} {base : Nat} {spare : Nat → Bool} {held : Bool} {r : Reach} {b0 : Nat} {v : Value} {d : DataW H} {p : List MemPlace}
theorem open_d32 (hv : Value.okWide Try.prog w r b0 34 v) (h : DataW.Trod enc Try.prog w base spare held 34 v d p) :
    ∃ bs : List Int, v = .agg (byteV bs) ∧ bs.length = 32 ∧ Bytes bs := by
  obtain ⟨cs, rfl, hsz⟩ := okWide_array Try.underlying34 hv
  obtain ⟨fuel, hf⟩ := h
  simp only [Value.cells] at hf
  obtain ⟨xs, m, _, _, hl, hn, hx⟩ := DataW.trod_array Try.underlying34 hf
  have h1 : Try.prog.cellsOf 5 = 1 := by kernel_rfl
  have h32 : cs.size = 32 := by rw [hsz]; kernel_rfl
  have key : ∀ i (hi : i < cs.toList.length), ∃ n, cs.toList[i] = .int .u8 n ∧ (Lit.int .u8 n).wf = true := by
    intro i hi
    have hi' : i < 32 := by simpa [h32] using hi
    have := hx i hi'
    rw [h1, Nat.mul_one, List.getElem?_eq_getElem (by omega)] at this
    obtain ⟨n, e, _, hw⟩ := DataW.trod_int Try.underlying5 this
    refine ⟨n, ?_, hw⟩
    rw [List.drop_eq_getElem_cons hi] at e
    simpa using e
  refine ⟨cs.toList.map intOf, ?_, by simp [h32], ?_⟩
  · congr 1
    apply Array.toList_inj.1
    unfold byteV
    simp only [List.map_map]
    apply List.ext_getElem
    · simp
    · intro i h1 h2
      obtain ⟨n, e, _⟩ := key i h1
      simp only [List.getElem_map, Function.comp]
      rw [e]; rfl
  · intro b hb
    obtain ⟨c, hc, rfl⟩ := List.mem_map.1 hb
    obtain ⟨i, hi, rfl⟩ := List.getElem_of_mem hc
    obtain ⟨n, e, hw⟩ := key i hi
    rw [e]
    have := bounds_u8 hw
    exact ⟨this.1, by have := this.2; show n < 256; omega⟩
end
end Go.Proofs.Ytjdfjgphjdcnmaa
