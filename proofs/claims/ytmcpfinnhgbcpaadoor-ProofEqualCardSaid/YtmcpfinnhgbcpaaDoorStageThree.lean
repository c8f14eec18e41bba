/- A staged region where three operations may come up. -/
import Derived.Test.YtmcpfinnhgbcpaaDoorStageTwo
namespace Go.Proofs.YtmcpfinnhgbcpaaDoor
open Go
section
variable {P : Program} {ops : Array Oper} {Q : Exit → Act → World → Prop} {md : Region.Mode} {b : Nat} {S : World → Prop}
theorem wpAnyB_three {i j k : Nat} (dst : Option Tmp) (op : Op) (ty : TypeId) (dst' : Option Tmp) (op' : Op) (ty' : TypeId) (dst'' : Option Tmp) (op'' : Op) (ty'' : TypeId) {fuel : Nat} {listed : Array Bool} {a : Act} {w : World} (hi : isBare ops i dst op ty) (hj : isBare ops j dst' op' ty') (hk : isBare ops k dst'' op'' ty'') (hr : Region.ready md ops listed = [i, j, k])
    (h : ∀ K : Act → World → Prop, RowKit.Hid (∀ a w, ((listed.setIfInBounds i true).getD b true = false → S w) → wpAnyB P md ops Q b S fuel (listed.setIfInBounds i true) a w → K a w) → Oper.wp P (bareOp dst op ty) a w K Q)
    (h' : ∀ K : Act → World → Prop, RowKit.Hid (∀ a w, ((listed.setIfInBounds j true).getD b true = false → S w) → wpAnyB P md ops Q b S fuel (listed.setIfInBounds j true) a w → K a w) → Oper.wp P (bareOp dst' op' ty') a w K Q)
    (h'' : ∀ K : Act → World → Prop, RowKit.Hid (∀ a w, ((listed.setIfInBounds k true).getD b true = false → S w) → wpAnyB P md ops Q b S fuel (listed.setIfInBounds k true) a w → K a w) → Oper.wp P (bareOp dst'' op'' ty'') a w K Q) :
    wpAnyB P md ops Q b S (fuel + 1) listed a w := by
  have one : ∀ (n : Nat) (d : Option Tmp) (p : Op) (t : TypeId), isBare ops n d p t → (∀ K : Act → World → Prop, RowKit.Hid (∀ a w, ((listed.setIfInBounds n true).getD b true = false → S w) → wpAnyB P md ops Q b S fuel (listed.setIfInBounds n true) a w → K a w) → Oper.wp P (bareOp d p t) a w K Q) →
      wpOp P ops Q n (fun a' w' => ((listed.setIfInBounds n true).getD b true = false → S w') ∧ wpAnyB P md ops Q b S fuel (listed.setIfInBounds n true) a' w') a w := by
    intro n d p t hn hh
    obtain ⟨o, ho, rfl, h1, h2, h3⟩ := hn
    refine wpOp_step ho (fun K hK => ?_)
    rw [if_pos (by simp [Region.wanted, h3])]
    have h4 := hh K (Lib.hid fun a w hS hW => hK a w ⟨hS, hW⟩)
    unfold Oper.wp at h4 ⊢
    rw [exec_bare (dst := o.dst) h1 h2]
    exact h4
  refine ⟨fun h0 => (by rw [hr] at h0; cases h0), fun n hn => ?_⟩
  rw [hr] at hn
  simp only [List.mem_cons, List.not_mem_nil, or_false] at hn
  rcases hn with rfl | rfl | rfl
  · exact one _ _ _ _ hi h
  · exact one _ _ _ _ hj h'
  · exact one _ _ _ _ hk h''
end
end Go.Proofs.YtmcpfinnhgbcpaaDoor
