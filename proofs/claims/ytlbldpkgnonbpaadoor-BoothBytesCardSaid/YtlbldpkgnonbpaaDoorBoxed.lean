/- A group that lies boxed in memory, and how it stays there. -/
import Derived.Test.YtlbldpkgnonbpaaDoorBas
namespace Go.Proofs.YtlbldpkgnonbpaaDoor
open Go.RowKit

structure Boxed (w : World) (B : Nat) (P Q G : Int) : Prop where
  c0 : w.cell? ⟨B, 0, none⟩ = some (.int .u64 P)
  c1 : w.cell? ⟨B, 1, none⟩ = some (.int .u64 Q)
  c2 : w.cell? ⟨B, 2, none⟩ = some (.int .u64 G)
  lt : B < w.heap.size

theorem Boxed.new (w : World) (P Q G : Int) (T : TypeId) : Boxed (w.alloc (.cells #[.int .u64 P, .int .u64 Q, .int .u64 G] T)) w.heap.size P Q G := by
  refine ⟨?_, ?_, ?_, ?_⟩
  · rw [World.cell?_alloc_new]; rfl
  · rw [World.cell?_alloc_new]; rfl
  · rw [World.cell?_alloc_new]; rfl
  · simp
theorem Boxed.keep {w w' : World} {B : Nat} {P Q G : Int} (h : Boxed w B P Q G) (hb : Below w.heap.size w w') : Boxed w' B P Q G :=
  ⟨(hb.cell (p := ⟨B, 0, none⟩) h.lt).trans h.c0, (hb.cell (p := ⟨B, 1, none⟩) h.lt).trans h.c1, (hb.cell (p := ⟨B, 2, none⟩) h.lt).trans h.c2, Nat.lt_of_lt_of_le h.lt hb.size⟩
theorem Boxed.drew {w : World} {B : Nat} {P Q G : Int} (h : Boxed w B P Q G) : Boxed w.drew B P Q G := h.keep (Below.refl _ _).drew
theorem Boxed.alloc {w : World} {B : Nat} {P Q G : Int} (h : Boxed w B P Q G) (o : Obj) : Boxed (w.alloc o) B P Q G := h.keep ((Below.refl _ _).alloc (Nat.le_refl _) o)
end Go.Proofs.YtlbldpkgnonbpaaDoor
