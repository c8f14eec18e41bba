/- The reference's Sum: all cases. -/
import Derived.Test.YtffefhldfnfohaaSumRB
import Derived.Test.YtffefhldfnfohaaSumRC
import Derived.Test.YtffefhldfnfohaaSumRD
namespace Go.Proofs.Ytffefhldfnfohaa
open Go.RowKit Num
set_option linter.unusedSimpArgs false
set_option linter.unusedVariables false

theorem rsum_any {P Q G x y e' : Int} {a : Option Addr} {n c : Nat} {ps : List (Int × Int)} (w : World) (hP : 0 ≤ P) (hQ : 0 ≤ Q) (hG : 0 ≤ G) (hS : ShS w a n ps) (hN : ∀ p, p ∈ ps → 0 ≤ p.1 ∧ 0 ≤ p.2) (hv : SumS P Q G ps x y e') :
    Calls Try.prog 16 #[.agg #[.int .u64 P, .int .u64 Q, .int .u64 G], .slice a n c] w fun e w' => e = .returned (.tuple #[.agg #[.int .u64 x, .int .u64 y], .int .i64 e']) ∧ Below w.heap.size w w' := by
  rcases hv with ⟨hH, rfl, rfl, rfl⟩ | ⟨hH, hn, rfl, rfl, rfl⟩ | ⟨hH, hn, ho, rfl, rfl, rfl⟩ | ⟨hH, hn, ho, hxy, rfl⟩
  · exact rsum_no w hP hQ hG hS hN hH
  · exact rsum_many w hP hQ hG hS hN hH hn
  · exact rsum_bad w hP hQ hG hS hN hH hn ho
  · exact rsum_ok w hP hQ hG hS hN hH hn ho hxy
end Go.Proofs.Ytffefhldfnfohaa
