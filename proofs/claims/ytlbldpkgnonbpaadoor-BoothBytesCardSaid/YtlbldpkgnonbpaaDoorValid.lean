/- group.Check, group.Default, group.FromDigest. -/
import Derived.Test.YtlbldpkgnonbpaaDoorMemLog
namespace Go.Proofs.YtlbldpkgnonbpaaDoor
open Go.RowKit Num

/-- A valid group. -/
def Valid (P Q G : Int) : Prop := Has P Q G ∧ Pr P ∧ Pr Q ∧ powm G Q P = 1
theorem Valid.has {P Q G : Int} (h : Valid P Q G) : Has P Q G := h.1
theorem Valid.grp {P Q G : Int} (h : Valid P Q G) : Grp P Q G := ⟨h.1.2.2.2.1, h.2.1, h.2.2.1, h.1.2.2.2.2.1, h.1.2.2.2.2.2, h.2.2.2⟩

/-- What Check gives. -/
def ValidS (P Q G c : Int) : Prop := (Valid P Q G ∧ c = 0) ∨ (¬ Valid P Q G ∧ c = 300)
theorem ValidS.exists (P Q G : Int) : ∃ c, ValidS P Q G c := by
  by_cases h : Valid P Q G
  · exact ⟨0, .inl ⟨h, rfl⟩⟩
  · exact ⟨300, .inr ⟨h, rfl⟩⟩
theorem ValidS.eq {P Q G c d : Int} (h : ValidS P Q G c) (h' : ValidS P Q G d) : c = d := by
  rcases h with ⟨h1, h2⟩ | ⟨h1, h2⟩ <;> rcases h' with ⟨k1, k2⟩ | ⟨k1, k2⟩
  · omega
  · exact absurd h1 k1
  · exact absurd k1 h1
  · omega
theorem ValidS.yes {P Q G c : Int} (h : ValidS P Q G c) (hv : Valid P Q G) : c = 0 := h.eq (.inl ⟨hv, rfl⟩)
theorem ValidS.no {P Q G c : Int} (h : ValidS P Q G c) (hv : ¬ Valid P Q G) : c = 300 := h.eq (.inr ⟨hv, rfl⟩)

end Go.Proofs.YtlbldpkgnonbpaaDoor
