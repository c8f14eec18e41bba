/- Staged regions with guarded operations. -/
import Derived.Test.YtjfaaicbojnpaaaStage
namespace Go.Proofs.Ytjfaaicbojnpaaa
open Go

section
variable {P : Program} {ops : Array Oper} {Q : Exit → Act → World → Prop} {md : Region.Mode} {b : Nat} {S : World → Prop}

/-- An operation of which the guard alone counts. -/
def guardOp (g : Option (Nat × Bool)) : Oper := { dst := none, op := .move (.tmp 0), type := 0, pos := "", after := #[], guard := g }
theorem wanted_guard {o : Oper} {g : Option (Nat × Bool)} (h : o.guard = g) (f : Nat → Option Bool) : Region.wanted o f = Region.wanted (guardOp g) f := by
  unfold Region.wanted
  rw [h]
  rfl
def isGuard (ops : Array Oper) (i : Nat) (dst : Option Tmp) (op : Op) (ty : TypeId) (g : Option (Nat × Bool)) : Prop := ∃ o, ops[i]? = some o ∧ o.dst = dst ∧ o.op = op ∧ o.type = ty ∧ o.guard = g

theorem wpAnyB_takeG {i : Nat} (dst : Option Tmp) (op : Op) (ty : TypeId) (g : Option (Nat × Bool)) {v : Value} {fuel : Nat} {listed : Array Bool} {a : Act} {w : World} (hi : isGuard ops i dst op ty g)
    (hg : Region.wanted (guardOp g) (yielded ops a.tmps) = true)
    (hs : Region.noSelect ops = true) (hf : Region.free md ops listed i = true) (hr : (Region.ready md ops listed).contains i = true)
    (T : List Nat) (hwf : waitsAll md ops listed T b i = true)
    (hQ : ∀ c a w, Q (.panic c) (a.put dst v) w → Q (.panic c) a w) (hS : S w) (hy : ∀ w, S w → (execOp a.eval (bareOp dst op ty)).run P w = .ok (.value v) w)
    (h : wpAnyB P md ops Q b S fuel (listed.setIfInBounds i true) (a.put dst v) w) : wpAnyB P md ops Q b S (fuel + 1) listed a w := by
  obtain ⟨o, ho, rfl, h1, h2, h3⟩ := hi
  exact wpAnyB_first ho (Region.noSelect_spec hs) hQ T (waitsAll_spec hwf).1 (waitsAll_spec hwf).2.1 (waitsAll_spec hwf).2.2.2 fuel listed a w (Region.free_spec ho hf) (by simpa using hr) (waitsAll_spec hwf).2.2.1
    (.inl ⟨(wanted_guard h3 _).trans hg, fun w hw => by rw [exec_bare h1 h2]; exact hy w hw⟩) hS h
theorem wpAnyB_takePG {i : Nat} (dst : Option Tmp) (op : Op) (ty : TypeId) (g : Option (Nat × Bool)) {v : Value} {fuel : Nat} {listed : Array Bool} {a : Act} {w : World} (hi : isGuard ops i dst op ty g)
    (hg : Region.wanted (guardOp g) (yielded ops a.tmps) = true)
    (hs : Region.noSelect ops = true) (hf : Region.free md ops listed i = true) (hr : (Region.ready md ops listed).contains i = true)
    (hib : (i == b) = false)
    (hQ : ∀ c a w, Q (.panic c) (a.put dst v) w → Q (.panic c) a w) (hS : listed.getD b true = false → S w) (hy : ∀ w, (execOp a.eval (bareOp dst op ty)).run P w = .ok (.value v) w)
    (h : wpAnyB P md ops Q b S fuel (listed.setIfInBounds i true) (a.put dst v) w) : wpAnyB P md ops Q b S (fuel + 1) listed a w := by
  obtain ⟨o, ho, rfl, h1, h2, h3⟩ := hi
  exact wpAnyB_firstP ho (Region.noSelect_spec hs) hQ (by simpa using hib) fuel listed a w (Region.free_spec ho hf) (by simpa using hr)
    (.inl ⟨(wanted_guard h3 _).trans hg, fun w => by rw [exec_bare h1 h2]; exact hy w⟩) hS h
/-- An operation whose guard does not hold. -/
theorem wpAnyB_skip {i : Nat} (dst : Option Tmp) (op : Op) (ty : TypeId) (g : Option (Nat × Bool)) {fuel : Nat} {listed : Array Bool} {a : Act} {w : World} (hi : isGuard ops i dst op ty g)
    (hg : Region.wanted (guardOp g) (yielded ops a.tmps) = false)
    (hs : Region.noSelect ops = true) (hf : Region.free md ops listed i = true) (hr : (Region.ready md ops listed).contains i = true)
    (hib : (i == b) = false)
    (hQ : ∀ c a w, Q (.panic c) (a.put dst undef) w → Q (.panic c) a w) (hS : listed.getD b true = false → S w)
    (h : wpAnyB P md ops Q b S fuel (listed.setIfInBounds i true) (a.put dst undef) w) : wpAnyB P md ops Q b S (fuel + 1) listed a w := by
  obtain ⟨o, ho, rfl, h1, h2, h3⟩ := hi
  exact wpAnyB_firstP ho (Region.noSelect_spec hs) hQ (by simpa using hib) fuel listed a w (Region.free_spec ho hf) (by simpa using hr)
    (.inr ⟨(wanted_guard h3 _).trans hg, rfl⟩) hS h
theorem wpAnyB_onlyG {i : Nat} (dst : Option Tmp) (op : Op) (ty : TypeId) (g : Option (Nat × Bool)) {fuel : Nat} {listed : Array Bool} {a : Act} {w : World} (hi : isGuard ops i dst op ty g) (hr : Region.ready md ops listed = [i])
    (hg : Region.wanted (guardOp g) (yielded ops a.tmps) = true)
    (h : ∀ K : Act → World → Prop, RowKit.Hid (∀ a w, ((listed.setIfInBounds i true).getD b true = false → S w) → wpAnyB P md ops Q b S fuel (listed.setIfInBounds i true) a w → K a w) →
      Oper.wp P (bareOp dst op ty) a w K Q) :
    wpAnyB P md ops Q b S (fuel + 1) listed a w := by
  obtain ⟨o, ho, rfl, h1, h2, h3⟩ := hi
  refine ⟨fun h0 => (by rw [hr] at h0; cases h0), fun j hj => ?_⟩
  rw [hr] at hj
  rcases List.mem_singleton.1 hj with rfl
  refine wpOp_step ho (fun K hK => ?_)
  rw [if_pos ((wanted_guard h3 _).trans hg)]
  have h4 := h K (Lib.hid fun a w hS hW => hK a w ⟨hS, hW⟩)
  unfold Oper.wp at h4 ⊢
  rw [exec_bare (dst := o.dst) h1 h2]
  exact h4
end
end Go.Proofs.Ytjfaaicbojnpaaa
