/- schnorr.Holds. -/
import Derived.Test.YtlbldpkgnonbpaaDoorSchA
namespace Go.Proofs.YtlbldpkgnonbpaaDoor
open Go.RowKit Num
set_option linter.unusedSimpArgs false
set_option linter.unusedVariables false
/-- A number and an error in the two cells of a block. -/
structure Side (w : World) (b : Nat) (x y : Int) : Prop where
  c0 : w.cell? ⟨b, 0, none⟩ = some (.int .u64 x)
  c1 : w.cell? ⟨b, 1, none⟩ = some (.int .i64 y)
  f0 : w.frozen? ⟨b, 0, none⟩ = false
  f1 : w.frozen? ⟨b, 1, none⟩ = false
  lt : b < w.heap.size

theorem Side.new (w : World) (x y : Int) (T : TypeId) : Side (w.alloc (.cells #[.int .u64 x, .int .i64 y] T)) w.heap.size x y := by
  refine ⟨?_, ?_, ?_, ?_, by simp⟩
  · rw [World.cell?_alloc_new]; rfl
  · rw [World.cell?_alloc_new]; rfl
  · simp
  · simp
theorem Side.at (w : World) (x y : Int) (T : TypeId) (b : Nat) (hb : b = w.heap.size) : Side (w.alloc (.cells #[.int .u64 x, .int .i64 y] T)) b x y := by
  rw [hb]; exact Side.new w x y T
theorem Side.keep {w w' : World} {b : Nat} {x y : Int} (h : Side w b x y) (hb : Below w.heap.size w w') : Side w' b x y :=
  ⟨(hb.cell (p := ⟨b, 0, none⟩) h.lt).trans h.c0, (hb.cell (p := ⟨b, 1, none⟩) h.lt).trans h.c1, (hb.frozen (p := ⟨b, 0, none⟩) h.lt).trans h.f0, (hb.frozen (p := ⟨b, 1, none⟩) h.lt).trans h.f1, Nat.lt_of_lt_of_le h.lt hb.size⟩
theorem Side.drew {w : World} {b : Nat} {x y : Int} (h : Side w b x y) : Side w.drew b x y := h.keep (Below.refl _ _).drew
theorem Side.alloc {w : World} {b : Nat} {x y : Int} (h : Side w b x y) (o : Obj) : Side (w.alloc o) b x y := h.keep ((Below.refl _ _).alloc (Nat.le_refl _) o)
theorem Side.first {w : World} {b : Nat} {x y : Int} (h : Side w b x y) (x' : Int) : Side (w.setCell ⟨b, 0, none⟩ (.int .u64 x')) b x' y := by
  refine ⟨World.cell?_setCell_same _ _ _ h.c0, ?_, ?_, ?_, by simpa using h.lt⟩
  · rw [World.cell?_setCell_other _ _ _ _ (by simp)]; exact h.c1
  · rw [World.frozen?_setCell]; exact h.f0
  · rw [World.frozen?_setCell]; exact h.f1
theorem Side.second {w : World} {b : Nat} {x y : Int} (h : Side w b x y) (y' : Int) : Side (w.setCell ⟨b, 1, none⟩ (.int .i64 y')) b x y' := by
  refine ⟨?_, World.cell?_setCell_same _ _ _ h.c1, ?_, ?_, by simpa using h.lt⟩
  · rw [World.cell?_setCell_other _ _ _ _ (by simp)]; exact h.c0
  · rw [World.frozen?_setCell]; exact h.f0
  · rw [World.frozen?_setCell]; exact h.f1
theorem Side.stored {w : World} {b : Nat} {x y : Int} (h : Side w b x y) (x' y' : Int) : Side ((w.setCell ⟨b, 0, none⟩ (.int .u64 x')).setCell ⟨b, 1, none⟩ (.int .i64 y')) b x' y' := (h.first x').second y'
theorem Side.far {w : World} {b c o : Nat} {x y : Int} (h : Side w b x y) (hn : c ≠ b) (v : Value) : Side (w.setCell ⟨c, o, none⟩ v) b x y := by
  refine ⟨?_, ?_, ?_, ?_, by simpa using h.lt⟩
  · rw [World.cell?_setCell_other _ _ _ _ (fun e => hn (congrArg Addr.block e))]; exact h.c0
  · rw [World.cell?_setCell_other _ _ _ _ (fun e => hn (congrArg Addr.block e))]; exact h.c1
  · rw [World.frozen?_setCell]; exact h.f0
  · rw [World.frozen?_setCell]; exact h.f1

end Go.Proofs.YtlbldpkgnonbpaaDoor
