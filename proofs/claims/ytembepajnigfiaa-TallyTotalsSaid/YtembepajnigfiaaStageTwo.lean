/- A staged region where two operations may come up. -/
import Derived.Test.YtembepajnigfiaaStage
namespace Go.Proofs.Ytembepajnigfiaa
open Go
section
variable {P : Program} {ops : Array Oper} {Q : Exit → Act → World → Prop} {md : Region.Mode} {b : Nat} {S : World → Prop}
theorem wpAnyB_two {i j : Nat} (dst : Option Tmp) (op : Op) (ty : TypeId) (dst' : Option Tmp) (op' : Op) (ty' : TypeId) {fuel : Nat} {listed : Array Bool} {a : Act} {w : World} (hi : isBare ops i dst op ty) (hj : isBare ops j dst' op' ty') (hr : Region.ready md ops listed = [i, j])
    (h : ∀ K : Act → World → Prop, RowKit.Hid (∀ a w, ((listed.setIfInBounds i true).getD b true = false → S w) → wpAnyB P md ops Q b S fuel (listed.setIfInBounds i true) a w → K a w) → Oper.wp P (bareOp dst op ty) a w K Q)
    (h' : ∀ K : Act → World → Prop, RowKit.Hid (∀ a w, ((listed.setIfInBounds j true).getD b true = false → S w) → wpAnyB P md ops Q b S fuel (listed.setIfInBounds j true) a w → K a w) → Oper.wp P (bareOp dst' op' ty') a w K Q) :
    wpAnyB P md ops Q b S (fuel + 1) listed a w := by
  obtain ⟨o, ho, rfl, h1, h2, h3⟩ := hi
  obtain ⟨o', ho', rfl, h1', h2', h3'⟩ := hj
  refine ⟨fun h0 => (by rw [hr] at h0; cases h0), fun k hk => ?_⟩
  rw [hr] at hk
  rcases List.mem_cons.1 hk with rfl | hk
  · refine wpOp_step ho (fun K hK => ?_)
    rw [if_pos (by simp [Region.wanted, h3])]
    have h4 := h K (Lib.hid fun a w hS hW => hK a w ⟨hS, hW⟩)
    unfold Oper.wp at h4 ⊢
    rw [exec_bare (dst := o.dst) h1 h2]
    exact h4
  · rcases List.mem_singleton.1 hk with rfl
    refine wpOp_step ho' (fun K hK => ?_)
    rw [if_pos (by simp [Region.wanted, h3'])]
    have h4 := h' K (Lib.hid fun a w hS hW => hK a w ⟨hS, hW⟩)
    unfold Oper.wp at h4 ⊢
    rw [exec_bare (dst := o'.dst) h1' h2']
    exact h4
end
end Go.Proofs.Ytembepajnigfiaa
