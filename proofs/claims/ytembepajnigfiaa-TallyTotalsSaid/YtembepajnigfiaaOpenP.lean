/- How pairs of numbers and bit proofs among the arguments are opened. -/
import Derived.Test.YtembepajnigfiaaOpenS
import Derived.OpenShut
namespace Go.Proofs.Ytembepajnigfiaa
open Go.ChangeShapes Go.WideShapes Go.ChangeAt Go.RowKit
set_option linter.unusedSimpArgs false
set_option linter.unusedVariables false

theorem okWide_arr {P : Program} {w : World} {r : Reach} {b0 : Nat} {t : TypeId} {n : Nat} {e : TypeId} {v : Value} (ht : P.underlying t = some (.array n e)) (h : Value.okWide P w r b0 t v) : ∃ cs, v = .agg cs ∧ cs.size = P.cellsOf t := by
  unfold Value.okWide at h
  rw [ht] at h
  obtain ⟨cs, h1, h2, _⟩ := h
  exact ⟨cs, h1, h2⟩
theorem list2 : ∀ (l : List Value), l.length = 2 → ∃ a b, l = [a, b]
  | [a, b], _ => ⟨a, b, rfl⟩
theorem list8 : ∀ (l : List Value), l.length = 8 → ∃ a b c d e f g i, l = [a, b, c, d, e, f, g, i]
  | [a, b, c, d, e, f, g, i], _ => ⟨a, b, c, d, e, f, g, i, rfl⟩
section
variable {H : Type} {enc : TypeId × Value → H} {P : Program} {w : World} {base : Nat} {spare : Nat → Bool} {held : Bool} {r : Reach} {b0 : Nat} {v : Value} {d : DataW H} {p : List MemPlace}
theorem arr2 {t e : TypeId} {fuel : Nat} {x0 x1 : Value} {x : DataW H × List MemPlace} (ht : P.underlying t = some (.array 2 e)) (he : P.underlying e = some (.int .u64)) (hc : P.cellsOf e = 1) (h : DataW.trod enc P w base spare held fuel t [x0, x1] = some x) :
    ∃ a b : Int, x0 = .int .u64 a ∧ x1 = .int .u64 b ∧ U64 a ∧ U64 b := by
  obtain ⟨xs, m, _, _, hl, hn, hx⟩ := DataW.trod_array ht h
  have h0 := hx 0 (by omega)
  have h1 := hx 1 (by omega)
  rw [hc, List.getElem?_eq_getElem (by omega)] at h0 h1
  obtain ⟨a, e0, _, wa⟩ := DataW.trod_int he h0
  obtain ⟨b, e1, _, wb⟩ := DataW.trod_int he h1
  simp at e0 e1
  exact ⟨a, b, e0, e1, U64.wf wa, U64.wf wb⟩
end
section
variable {H : Type} {enc : TypeId × Value → H} {w : World} {base : Nat} {spare : Nat → Bool} {held : Bool} {r : Reach} {b0 : Nat} {v : Value} {d : DataW H} {p : List MemPlace}
set_option maxRecDepth 100000 in
theorem open_p64 (hv : Value.okWide Try.prog w r b0 29 v) (h : DataW.Trod enc Try.prog w base spare held 29 v d p) :
    ∃ a b : Int, v = .agg #[.int .u64 a, .int .u64 b] ∧ U64 a ∧ U64 b := by
  obtain ⟨cs, rfl, hsz⟩ := okWide_arr Try.underlying29 hv
  obtain ⟨fuel, hf⟩ := h
  simp only [Value.cells] at hf
  have h2 : cs.toList.length = 2 := by rw [Array.length_toList, hsz]; kernel_rfl
  obtain ⟨x0, x1, hl⟩ := list2 _ h2
  rw [hl] at hf
  obtain ⟨a, b, rfl, rfl, ua, ub⟩ := arr2 Try.underlying29 Try.underlying22 (by kernel_rfl) hf
  refine ⟨a, b, ?_, ua, ub⟩
  congr 1
  exact Array.toList_inj.1 hl
set_option maxRecDepth 100000 in
theorem open_bit (hv : Value.okWide Try.prog w r b0 31 v) (h : DataW.Trod enc Try.prog w base spare held 31 v d p) :
    ∃ r0 r1 s0 s1 c0 c1 z0 z1 : Int, v = .agg #[.int .u64 r0, .int .u64 r1, .int .u64 s0, .int .u64 s1, .int .u64 c0, .int .u64 c1, .int .u64 z0, .int .u64 z1] ∧ U64 r0 ∧ U64 r1 ∧ U64 s0 ∧ U64 s1 ∧ U64 c0 ∧ U64 c1 ∧ U64 z0 ∧ U64 z1 := by
  obtain ⟨cs, rfl, hsz⟩ := okWide_struct Try.underlying31 hv
  obtain ⟨fuel, hf⟩ := h
  simp only [Value.cells] at hf
  have h2 : cs.toList.length = 8 := by rw [Array.length_toList, hsz]; kernel_rfl
  obtain ⟨x0, x1, x2, x3, x4, x5, x6, x7, hl⟩ := list8 _ h2
  rw [hl] at hf
  obtain ⟨xs, k, hk, hxy, _, hxl, hff⟩ := DataW.trod_struct Try.underlying31 hf
  match xs, hxl with
  | [y0, y1, y2, y3], _ =>
    have c39 : Try.prog.cellsOf 29 = 2 := by kernel_rfl
    have g0 := hff 0 _ rfl
    have g1 := hff 1 _ rfl
    have g2 := hff 2 _ rfl
    have g3 := hff 3 _ rfl
    simp [c39] at g0 g1 g2 g3
    obtain ⟨r0, r1, rfl, rfl, u0, u1⟩ := arr2 Try.underlying29 Try.underlying22 (by kernel_rfl) g0
    obtain ⟨s0, s1, rfl, rfl, u2, u3⟩ := arr2 Try.underlying29 Try.underlying22 (by kernel_rfl) g1
    obtain ⟨c0, c1, rfl, rfl, u4, u5⟩ := arr2 Try.underlying29 Try.underlying22 (by kernel_rfl) g2
    obtain ⟨z0, z1, rfl, rfl, u6, u7⟩ := arr2 Try.underlying29 Try.underlying22 (by kernel_rfl) g3
    refine ⟨r0, r1, s0, s1, c0, c1, z0, z1, ?_, u0, u1, u2, u3, u4, u5, u6, u7⟩
    congr 1
    exact Array.toList_inj.1 hl
end
end Go.Proofs.Ytembepajnigfiaa
