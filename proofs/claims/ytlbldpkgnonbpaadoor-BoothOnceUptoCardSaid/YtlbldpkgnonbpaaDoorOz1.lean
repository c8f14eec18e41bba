/- Seal, whatever it is given. -/
import Derived.Test.YtlbldpkgnonbpaaDoorOz0
set_option linter.unusedSimpArgs false
set_option linter.unusedVariables false
set_option maxRecDepth 100000
namespace Go.Proofs.YtlbldpkgnonbpaaDoor
open Go Go.RowKit Num Sha
theorem seal_any {P Q G y n : Int} {a : Option Addr} {m c : Nat} {ms seed : List Int} {one : Bool} (w : World) (hT : Tabs w) (hP : 0 ≤ P) (hQ : 0 ≤ Q) (hG : 0 ≤ G) (hy : 0 ≤ y) (hS : ShI .i64 w a m ms) (hkc : a = none → c = 0) (hu : ∀ x, x ∈ ms → -9223372036854775808 ≤ x ∧ x ≤ 9223372036854775807) (hm : m ≤ 9223372036854775807) (hsl : seed.length = 32) (hby : ByteL seed) :
    Calls Tryd.prog 24 #[.agg #[.int .u64 P, .int .u64 Q, .int .u64 G], .int .u64 y, .int .i64 n, .slice a m c, .bool one, .agg (valV .u8 seed)] w (SealR w P Q G y n ms one seed) := by
  by_cases hE : sealE P Q G y n ms one = 0
  case neg => exact seal_bad w hT hP hQ hG hy hS hkc hu hm hsl hby hE
  case pos =>
   have hk : chkB P Q G y n = 0 := by
    unfold sealE at hE
    split at hE
    · next h => exact absurd hE h
    · next h => exact Classical.not_not.1 h
   have hmk : markedS n ms = true ∧ (one = true → ms.length ≤ 1) := by
    unfold sealE at hE
    rw [if_neg (by simpa using hk)] at hE
    split at hE
    · assumption
    · cases hE
   obtain ⟨-, -, h1, h10⟩ := chkB_ok hk
   obtain ⟨j, rfl⟩ := Int.eq_ofNat_of_zero_le (show 0 ≤ n by omega)
   exact seal_ok w hT hP hQ hG hy hS hkc hu hm hsl hby (by omega) (by omega) hk hmk.1 (fun h => by rw [hS.len]; exact hmk.2 h)
end Go.Proofs.YtlbldpkgnonbpaaDoor
