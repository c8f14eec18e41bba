/- Folded: RefA, RefB, RefC, RefD, RefOf. -/
import Derived.Test.YtlbldpkgnonbpaaDoorFromD
import Derived.Test.YtlbldpkgnonbpaaDoorGen
/- The reference of chapter 30: Has, prime, Power, turned, under. -/
namespace Go.Proofs.YtlbldpkgnonbpaaDoor
open Go.RowKit Num




end Go.Proofs.YtlbldpkgnonbpaaDoor
/- The reference of chapter 30, further: turned, under, asked, and the functions of the chapter. -/
namespace Go.Proofs.YtlbldpkgnonbpaaDoor
open Go.RowKit Num



end Go.Proofs.YtlbldpkgnonbpaaDoor
/- The reference functions of chapter 30 that begin with asked. -/
namespace Go.Proofs.YtlbldpkgnonbpaaDoor
open Go.RowKit Num

theorem checkS_padP (P Q G a : Int) : checkS P Q G P [a, 0] = checkS P Q G P [a] := by
  by_cases h : Has P Q G
  · have : 0 < P := by have := h.1; omega
    unfold checkS okAll; simp [this]
  · unfold checkS; simp [h]
theorem checkS_padQ (P Q G a : Int) : checkS P Q G Q [a, 0] = checkS P Q G Q [a] := by
  by_cases h : Has P Q G
  · have : 0 < Q := by have := h.1; have := h.2.2.2.1; omega
    unfold checkS okAll; simp [this]
  · unfold checkS; simp [h]
theorem checkS_has {P Q G L : Int} (h : Has P Q G) : checkS P Q G L [] = 0 := by rw [checkS, if_pos h]; simp [okAll]
theorem checkS_not {P Q G L : Int} {xs : List Int} (h : ¬ Has P Q G) : checkS P Q G L xs = 300 := by rw [checkS, if_neg h]











end Go.Proofs.YtlbldpkgnonbpaaDoor
/- The reference of chapter 30: Form, Check, IsPrime, Default, Log, FromDigest. -/
namespace Go.Proofs.YtlbldpkgnonbpaaDoor
open Go.RowKit Num







end Go.Proofs.YtlbldpkgnonbpaaDoor
/- The reference's Of and FromDigest. -/
namespace Go.Proofs.YtlbldpkgnonbpaaDoor
open Go.RowKit Num
set_option linter.unusedVariables false

theorem byteV_size (bs : List Int) : (byteV bs).size = bs.length := by simp [byteV]


end Go.Proofs.YtlbldpkgnonbpaaDoor
