/- Words for equality proofs in memory. -/
import Derived.Test.YtlbldpkgnonbpaaDoorEqA
import Derived.Test.YtlbldpkgnonbpaaDoorStg
import Derived.Deep.Cut
namespace Go.Proofs.YtlbldpkgnonbpaaDoor
open Go Go.RowKit Num Sha
set_option linter.unusedSimpArgs false
set_option linter.unusedVariables false

theorem Arr.k3 {w : World} {b : Nat} {x y z : Int} (h : Arr .u64 w b [x, y, z]) : w.cell? ⟨b, 0, none⟩ = some (.int .u64 x) ∧ w.cell? ⟨b, 1, none⟩ = some (.int .u64 y) ∧ w.cell? ⟨b, 2, none⟩ = some (.int .u64 z) ∧ w.frozen? ⟨b, 0, none⟩ = false ∧ w.frozen? ⟨b, 1, none⟩ = false ∧ w.frozen? ⟨b, 2, none⟩ = false :=
  ⟨h.c 0 (by simp), h.c 1 (by simp), h.c 2 (by simp), h.f 0, h.f 1, h.f 2⟩
theorem Arr.st3 {w : World} {b : Nat} {x y z : Int} (h : Arr .u64 w b [x, y, z]) (x' y' z' : Int) : Arr .u64 (((w.setCell ⟨b, 0, none⟩ (.int .u64 x')).setCell ⟨b, 1, none⟩ (.int .u64 y')).setCell ⟨b, 2, none⟩ (.int .u64 z')) b [x', y', z'] :=
  ((h.set (ys := [x', y, z]) 0 (by simp) rfl).set (ys := [x', y', z]) 1 (by simp) rfl).set 2 (by simp) rfl
theorem Arr.under {k : IntKind} {w w' : World} {b n : Nat} {xs : List Int} (h : Arr k w b xs) (hb : Below n w w') (hn : b < n) : Arr k w' b xs := h.below hb hn
def S3 (w : World) (b : Nat) (x y z : Int) : Prop := w.cell? ⟨b, 0, none⟩ = some (.int .u64 x) ∧ w.cell? ⟨b, 1, none⟩ = some (.int .u64 y) ∧ w.cell? ⟨b, 2, none⟩ = some (.int .u64 z)
theorem Arr.s3 {w : World} {b : Nat} {x y z : Int} (h : Arr .u64 w b [x, y, z]) : S3 w b x y z := ⟨h.c 0 (by simp), h.c 1 (by simp), h.c 2 (by simp)⟩
/-- An equality proof. -/
def eqZ (P Q G a x k : Int) (T : List Int) : Int := (k + chV Q [powm G x P, a, powm a x P, powm G k P, powm a k P] T * x % Q) % Q
def RetE (chk R0 S0 Z0 R S Z e : Int) : Prop := (chk = 0 ∧ R = R0 ∧ S = S0 ∧ Z = Z0 ∧ e = 0) ∨ (chk ≠ 0 ∧ R = 0 ∧ S = 0 ∧ Z = 0 ∧ e = chk)
theorem RetE.exists (chk R0 S0 Z0 : Int) : ∃ R S Z e, RetE chk R0 S0 Z0 R S Z e := by
  by_cases h : chk = 0
  · exact ⟨R0, S0, Z0, 0, .inl ⟨h, rfl, rfl, rfl, rfl⟩⟩
  · exact ⟨0, 0, 0, chk, .inr ⟨h, rfl, rfl, rfl, rfl⟩⟩
/-- An equality proof is accepted. -/
def evP (P Q G y a d R S Z : Int) (T : List Int) : Prop := memsP P Q [y, a, d, R, S] ∧ powm G Z P = R * powm y (chV Q [y, a, d, R, S] T) P % P ∧ powm a Z P = S * powm d (chV Q [y, a, d, R, S] T) P % P
structure EqIn (w wx : World) (P Q G : Int) (Bp : Nat) (R S Z : Int) : Prop where
  g : Boxed wx w.heap.size P Q G
  r : Arr .u64 wx (w.heap.size + 1) [0, 0, 0]
  p : Arr .u64 wx Bp [R, S, Z]
  ne : w.heap.size + 2 ≤ Bp
  bel : Below w.heap.size w wx
end Go.Proofs.YtlbldpkgnonbpaaDoor
