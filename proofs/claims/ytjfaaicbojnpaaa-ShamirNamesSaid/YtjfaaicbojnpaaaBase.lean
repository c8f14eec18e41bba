/- The words that all walks of this seat share: the numbers that the group functions compute, and what a call leaves of the world. -/
import Derived.Test.YtjfaaicbojnpaaaChecked
import Derived.WalkKit
import Derived.WalkLawsBesides
import Derived.WalkSpells
import Derived.Lib.Hide
import Derived.BigQuiet
import Derived.Outline
import Derived.Deep.RegionWith
import Derived.Deep.DeepFit
import Derived.Deep.DeepMust
import Derived.Deep.LoopGhost
import Derived.OpenShut
namespace Go.Proofs.Ytjfaaicbojnpaaa
open Go.RowKit

theorem bcell {W w1 : World} (hb : Below W.heap.size W w1) : (∀ b o, b < W.heap.size → w1.cell? ⟨b, o, none⟩ = W.cell? ⟨b, o, none⟩) ∧ (∀ b o, b < W.heap.size → w1.frozen? ⟨b, o, none⟩ = W.frozen? ⟨b, o, none⟩) :=
  ⟨fun b o h => hb.cell (p := ⟨b, o, none⟩) h, fun b o h => hb.frozen (p := ⟨b, o, none⟩) h⟩

theorem ret_int {k : IntKind} {a b : Int} (h : a = b) : Ending.returned (.int k a) = .returned (.int k b) := by rw [h]
theorem ret_bool {a b : Bool} (h : a = b) : Ending.returned (.bool a) = .returned (.bool b) := by rw [h]
theorem ret_two {k l : IntKind} {a b c d : Int} (h : a = b) (h' : c = d) : Ending.returned (.tuple #[.int k a, .int l c]) = .returned (.tuple #[.int k b, .int l d]) := by rw [h, h']
theorem ret_bi {l : IntKind} {a b : Bool} {c d : Int} (h : a = b) (h' : c = d) : Ending.returned (.tuple #[.bool a, .int l c]) = .returned (.tuple #[.bool b, .int l d]) := by rw [h, h']
theorem ret_ib {l : IntKind} {a b : Bool} {c d : Int} (h' : c = d) (h : a = b) : Ending.returned (.tuple #[.int l c, .bool a]) = .returned (.tuple #[.int l d, .bool b]) := by rw [h, h']

/-- A number fits 64 bits. (The bound stands behind a name.) -/
def U64 (x : Int) : Prop := 0 ≤ x ∧ x ≤ 18446744073709551615
theorem U64.of_lt {x : Int} (h : 0 ≤ x) (h' : x < 4611686018427387904) : U64 x := ⟨h, by omega⟩
theorem U64.mono {x y : Int} (h : U64 x) (h0 : 0 ≤ y) (h1 : y ≤ x) : U64 y := ⟨h0, Int.le_trans h1 h.2⟩
theorem U64.wf {x : Int} (h : (Lit.int .u64 x).wf = true) : U64 x := by
  have h := bounds_u64 h
  exact ⟨h.1, h.2⟩
theorem U64.half {x : Int} (h : U64 x) : IntKind.u64.wrap (x.tdiv 2) = x / 2 := by
  rw [Int.tdiv_eq_ediv_of_nonneg h.1, IntKind.wrap_u64]
  have := h.1
  have := h.2
  omega
theorem U64.and_one {x : Int} (h : U64 x) : bits BinOp.and IntKind.u64 x 1 = x % 2 := and_one_u64 x h.1 h.2

/-- A group has the form of a group. -/
def Has (P Q G : Int) : Prop := 5 ≤ P ∧ P < 2147483648 ∧ 0 ≤ Q ∧ P = 2 * Q + 1 ∧ 2 ≤ G ∧ G < P
instance (P Q G : Int) : Decidable (Has P Q G) := by unfold Has; exact inferInstance

/-- The error of a group and of numbers that must be below a limit. -/
def okAll (L : Int) (xs : List Int) : Bool := xs.all fun x => decide (x < L)
def checkS (P Q G L : Int) (xs : List Int) : Int := if Has P Q G then (if okAll L xs then 0 else 2) else 300
end Go.Proofs.Ytjfaaicbojnpaaa
