/- Cells and lists of votes and reveals, over a store elsewhere. -/
import Derived.Test.YtlbldpkgnonbpaaDoorOz5
set_option linter.unusedSimpArgs false
set_option linter.unusedVariables false
set_option maxRecDepth 100000
namespace Go.Proofs.YtlbldpkgnonbpaaDoor
open Go Go.RowKit Num Sha
theorem VCells.gro {w w' : World} {s p r : Nat} {V : Vt} (h : VCells w s p V) (g : Gro r w w') (hn : s ≠ r) : VCells w' s p V := by
 have e : ∀ q, w'.cell? ⟨s, q, none⟩ = w.cell? ⟨s, q, none⟩ := fun q => World.cell?_of_block (w := w) (a := ⟨s, q, none⟩) (g.block s h.lt (by simpa using hn))
 obtain ⟨h0, c0, c1, c2, c3, c4, c5, c6, c7, c8, c9, c10⟩ := h
 exact ⟨Nat.lt_of_lt_of_le h0 g.size, (e _).trans c0, (e _).trans c1, (e _).trans c2, (e _).trans c3, (e _).trans c4, (e _).trans c5, (e _).trans c6, (e _).trans c7, (e _).trans c8, (e _).trans c9, (e _).trans c10⟩
theorem RCells.gro {w w' : World} {s p r : Nat} {R : Rv} (h : RCells w s p R) (g : Gro r w w') (hn : s ≠ r) : RCells w' s p R := by
 have e : ∀ q, w'.cell? ⟨s, q, none⟩ = w.cell? ⟨s, q, none⟩ := fun q => World.cell?_of_block (w := w) (a := ⟨s, q, none⟩) (g.block s h.lt (by simpa using hn))
 exact ⟨Nat.lt_of_lt_of_le h.lt g.size, (e _).trans h.c0, (e _).trans h.c1⟩
theorem VtIn.grownO {w w' : World} {U : Vt} {ob : Option Nat} (h : VtIn w U) (hg : w.grownBy w' ob) (h1 : offB U.a U.n ob) (h2 : offB U.b U.m ob) : VtIn w' U := ⟨h.h1.grown hg h1, h.u1, h.k1, h.h2.grown hg h2, h.u2, h.k2, h.uz⟩
theorem RvIn.grownOR {w w' : World} {U : Rv} {ob : Option Nat} (h : RvIn w U) (hg : w.grownBy w' ob) (h1 : offB U.a U.n ob) (h2 : offB U.b U.m ob) : RvIn w' U := ⟨h.h1.grown hg h1, h.u1, h.k1, h.h2.grown hg h2, h.u2, h.k2⟩
end Go.Proofs.YtlbldpkgnonbpaaDoor
