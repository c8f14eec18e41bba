/- Folded: StageG, StageTwo, StageThree, StageIn. -/
import Derived.Test.YtlbldpkgnonbpaaGreatDoorQsC
import Derived.OrdersIn
import Derived.OwnWalkIn
import Derived.RangeFuncCalls
set_option linter.unusedSimpArgs false
set_option linter.unusedVariables false
set_option maxRecDepth 100000
/- Staged regions with guarded operations. -/
namespace Go.Proofs.YtlbldpkgnonbpaaGreatDoor
open Go
section
variable {P : Program} {ops : Array Oper} {Q : Exit → Act → World → Prop} {md : Region.Mode} {b : Nat} {S : World → Prop}
def guardOp (g : Option (Nat × Bool)) : Oper := { dst := none, op := .move (.tmp 0), type := 0, pos := "", after := #[], guard := g }
theorem wanted_guard {o : Oper} {g : Option (Nat × Bool)} (h : o.guard = g) (f : Nat → Option Bool) : Region.wanted o f = Region.wanted (guardOp g) f := by
 unfold Region.wanted
 rw [h]
 rfl
def isGuard (ops : Array Oper) (i : Nat) (dst : Option Tmp) (op : Op) (ty : TypeId) (g : Option (Nat × Bool)) : Prop := ∃ o, ops[i]? = some o ∧ o.dst = dst ∧ o.op = op ∧ o.type = ty ∧ o.guard = g
theorem wpAnyB_takeG {i : Nat} (dst : Option Tmp) (op : Op) (ty : TypeId) (g : Option (Nat × Bool)) {v : Value} {fuel : Nat} {listed : Array Bool} {a : Act} {w : World} (hi : isGuard ops i dst op ty g)
 (hg : Region.wanted (guardOp g) (yielded ops a.tmps) = true)
 (hs : Region.noSelect ops = true) (hf : Region.free md ops listed i = true) (hr : (Region.ready md ops listed).contains i = true)
 (T : List Nat) (hwf : waitsAll md ops listed T b i = true)
 (hQ : ∀ c a w, Q (.panic c) (a.put dst v) w → Q (.panic c) a w) (hS : S w) (hy : ∀ w, S w → (execOp a.eval (bareOp dst op ty)).run P w = .ok (.value v) w)
 (h : wpAnyB P md ops Q b S fuel (listed.setIfInBounds i true) (a.put dst v) w) : wpAnyB P md ops Q b S (fuel + 1) listed a w := by
 obtain ⟨o, ho, rfl, h1, h2, h3⟩ := hi
 exact wpAnyB_first ho (Region.noSelect_spec hs) hQ T (waitsAll_spec hwf).1 (waitsAll_spec hwf).2.1 (waitsAll_spec hwf).2.2.2 fuel listed a w (Region.free_spec ho hf) (by simpa using hr) (waitsAll_spec hwf).2.2.1
  (.inl ⟨(wanted_guard h3 _).trans hg, fun w hw => by rw [exec_bare h1 h2]; exact hy w hw⟩) hS h
theorem tkLG {i : Nat} (dst : Option Tmp) (op : Op) (ty : TypeId) (g : Option (Nat × Bool)) (T : List Nat) {v : Value} {fuel : Nat} {listed : Array Bool} {a : Act} {w : World} (hS : S w) (hy : ∀ w, S w → (execOp a.eval (bareOp dst op ty)).run P w = .ok (.value v) w)
 (h : wpAnyB P md ops Q b S fuel (listed.setIfInBounds i true) (a.put dst v) w) (hi : isGuard ops i dst op ty g := by exact ⟨_, rfl, rfl, rfl, rfl, rfl⟩) (hg : Region.wanted (guardOp g) (yielded ops a.tmps) = true := by rfl) (hs : Region.noSelect ops = true := by kernel_rfl) (hf : Region.free md ops listed i = true := by kernel_rfl) (hr : (Region.ready md ops listed).contains i = true := by kernel_rfl)
 (hwf : waitsAll md ops listed T b i = true := by kernel_rfl) (hQ : ∀ c a w, Q (.panic c) (a.put dst v) w → Q (.panic c) a w := by exact fun _ _ _ h => h) : wpAnyB P md ops Q b S (fuel + 1) listed a w := wpAnyB_takeG dst op ty g hi hg hs hf hr T hwf hQ hS hy h
theorem wpAnyB_takePG {i : Nat} (dst : Option Tmp) (op : Op) (ty : TypeId) (g : Option (Nat × Bool)) {v : Value} {fuel : Nat} {listed : Array Bool} {a : Act} {w : World} (hi : isGuard ops i dst op ty g)
 (hg : Region.wanted (guardOp g) (yielded ops a.tmps) = true)
 (hs : Region.noSelect ops = true) (hf : Region.free md ops listed i = true) (hr : (Region.ready md ops listed).contains i = true)
 (hib : (i == b) = false)
 (hQ : ∀ c a w, Q (.panic c) (a.put dst v) w → Q (.panic c) a w) (hS : listed.getD b true = false → S w) (hy : ∀ w, (execOp a.eval (bareOp dst op ty)).run P w = .ok (.value v) w)
 (h : wpAnyB P md ops Q b S fuel (listed.setIfInBounds i true) (a.put dst v) w) : wpAnyB P md ops Q b S (fuel + 1) listed a w := by
 obtain ⟨o, ho, rfl, h1, h2, h3⟩ := hi
 exact wpAnyB_firstP ho (Region.noSelect_spec hs) hQ (by simpa using hib) fuel listed a w (Region.free_spec ho hf) (by simpa using hr)
  (.inl ⟨(wanted_guard h3 _).trans hg, fun w => by rw [exec_bare h1 h2]; exact hy w⟩) hS h
theorem tkPG {i : Nat} (dst : Option Tmp) (op : Op) (ty : TypeId) (g : Option (Nat × Bool)) {v : Value} {fuel : Nat} {listed : Array Bool} {a : Act} {w : World} (hS : listed.getD b true = false → S w)
 (h : wpAnyB P md ops Q b S fuel (listed.setIfInBounds i true) (a.put dst v) w) (hy : ∀ w, (execOp a.eval (bareOp dst op ty)).run P w = .ok (.value v) w := by (intro w; unfold bareOp; go_simp; try with_reducible rfl)) (hi : isGuard ops i dst op ty g := by exact ⟨_, rfl, rfl, rfl, rfl, rfl⟩) (hg : Region.wanted (guardOp g) (yielded ops a.tmps) = true := by rfl) (hs : Region.noSelect ops = true := by kernel_rfl) (hf : Region.free md ops listed i = true := by kernel_rfl) (hr : (Region.ready md ops listed).contains i = true := by kernel_rfl)
 (hib : (i == b) = false := by kernel_rfl) (hQ : ∀ c a w, Q (.panic c) (a.put dst v) w → Q (.panic c) a w := by exact fun _ _ _ h => h) : wpAnyB P md ops Q b S (fuel + 1) listed a w := wpAnyB_takePG dst op ty g hi hg hs hf hr hib hQ hS hy h
theorem wpAnyB_skip {i : Nat} (dst : Option Tmp) (op : Op) (ty : TypeId) (g : Option (Nat × Bool)) {fuel : Nat} {listed : Array Bool} {a : Act} {w : World} (hi : isGuard ops i dst op ty g)
 (hg : Region.wanted (guardOp g) (yielded ops a.tmps) = false)
 (hs : Region.noSelect ops = true) (hf : Region.free md ops listed i = true) (hr : (Region.ready md ops listed).contains i = true)
 (hib : (i == b) = false)
 (hQ : ∀ c a w, Q (.panic c) (a.put dst undef) w → Q (.panic c) a w) (hS : listed.getD b true = false → S w)
 (h : wpAnyB P md ops Q b S fuel (listed.setIfInBounds i true) (a.put dst undef) w) : wpAnyB P md ops Q b S (fuel + 1) listed a w := by
 obtain ⟨o, ho, rfl, h1, h2, h3⟩ := hi
 exact wpAnyB_firstP ho (Region.noSelect_spec hs) hQ (by simpa using hib) fuel listed a w (Region.free_spec ho hf) (by simpa using hr)
  (.inr ⟨(wanted_guard h3 _).trans hg, rfl⟩) hS h
theorem skG {i : Nat} (dst : Option Tmp) (op : Op) (ty : TypeId) (g : Option (Nat × Bool)) {fuel : Nat} {listed : Array Bool} {a : Act} {w : World} (hS : listed.getD b true = false → S w)
 (h : wpAnyB P md ops Q b S fuel (listed.setIfInBounds i true) (a.put dst undef) w) (hi : isGuard ops i dst op ty g := by exact ⟨_, rfl, rfl, rfl, rfl, rfl⟩) (hg : Region.wanted (guardOp g) (yielded ops a.tmps) = false := by rfl) (hs : Region.noSelect ops = true := by kernel_rfl) (hf : Region.free md ops listed i = true := by kernel_rfl) (hr : (Region.ready md ops listed).contains i = true := by kernel_rfl)
 (hib : (i == b) = false := by kernel_rfl) (hQ : ∀ c a w, Q (.panic c) (a.put dst undef) w → Q (.panic c) a w := by exact fun _ _ _ h => h) : wpAnyB P md ops Q b S (fuel + 1) listed a w := wpAnyB_skip dst op ty g hi hg hs hf hr hib hQ hS h
theorem wpAnyB_onlyG {i : Nat} (dst : Option Tmp) (op : Op) (ty : TypeId) (g : Option (Nat × Bool)) {fuel : Nat} {listed : Array Bool} {a : Act} {w : World} (hi : isGuard ops i dst op ty g) (hr : Region.ready md ops listed = [i])
 (hg : Region.wanted (guardOp g) (yielded ops a.tmps) = true)
 (h : ∀ K : Act → World → Prop, RowKit.Hid (∀ a w, ((listed.setIfInBounds i true).getD b true = false → S w) → wpAnyB P md ops Q b S fuel (listed.setIfInBounds i true) a w → K a w) →
   Oper.wp P (bareOp dst op ty) a w K Q) :
 wpAnyB P md ops Q b S (fuel + 1) listed a w := by
 obtain ⟨o, ho, rfl, h1, h2, h3⟩ := hi
 refine ⟨fun h0 => (by rw [hr] at h0; cases h0), fun j hj => ?_⟩
 rw [hr] at hj
 rcases List.mem_singleton.1 hj with rfl
 refine wpOp_step ho (fun K hK => ?_)
 rw [if_pos ((wanted_guard h3 _).trans hg)]
 have h4 := h K (Lh fun a w hS hW => hK a w ⟨hS, hW⟩)
 unfold Oper.wp at h4 ⊢
 rw [exec_bare (dst := o.dst) h1 h2]
 exact h4
end
end Go.Proofs.YtlbldpkgnonbpaaGreatDoor
/- A staged region where two operations may come up. -/
namespace Go.Proofs.YtlbldpkgnonbpaaGreatDoor
open Go
section
variable {P : Program} {ops : Array Oper} {Q : Exit → Act → World → Prop} {md : Region.Mode} {b : Nat} {S : World → Prop}
theorem wpAnyB_two {i j : Nat} (dst : Option Tmp) (op : Op) (ty : TypeId) (dst' : Option Tmp) (op' : Op) (ty' : TypeId) {fuel : Nat} {listed : Array Bool} {a : Act} {w : World} (hi : isBare ops i dst op ty) (hj : isBare ops j dst' op' ty') (hr : Region.ready md ops listed = [i, j])
 (h : ∀ K : Act → World → Prop, RowKit.Hid (∀ a w, ((listed.setIfInBounds i true).getD b true = false → S w) → wpAnyB P md ops Q b S fuel (listed.setIfInBounds i true) a w → K a w) → Oper.wp P (bareOp dst op ty) a w K Q)
 (h' : ∀ K : Act → World → Prop, RowKit.Hid (∀ a w, ((listed.setIfInBounds j true).getD b true = false → S w) → wpAnyB P md ops Q b S fuel (listed.setIfInBounds j true) a w → K a w) → Oper.wp P (bareOp dst' op' ty') a w K Q) :
 wpAnyB P md ops Q b S (fuel + 1) listed a w := by
 obtain ⟨o, ho, rfl, h1, h2, h3⟩ := hi
 obtain ⟨o', ho', rfl, h1', h2', h3'⟩ := hj
 refine ⟨fun h0 => (by rw [hr] at h0; cases h0), fun k hk => ?_⟩
 rw [hr] at hk
 rcases List.mem_cons.1 hk with rfl | hk
 · refine wpOp_step ho (fun K hK => ?_)
   rw [if_pos (by simp [Region.wanted, h3])]
   have h4 := h K (Lh fun a w hS hW => hK a w ⟨hS, hW⟩)
   unfold Oper.wp at h4 ⊢
   rw [exec_bare (dst := o.dst) h1 h2]
   exact h4
 · rcases List.mem_singleton.1 hk with rfl
   refine wpOp_step ho' (fun K hK => ?_)
   rw [if_pos (by simp [Region.wanted, h3'])]
   have h4 := h' K (Lh fun a w hS hW => hK a w ⟨hS, hW⟩)
   unfold Oper.wp at h4 ⊢
   rw [exec_bare (dst := o'.dst) h1' h2']
   exact h4
end
end Go.Proofs.YtlbldpkgnonbpaaGreatDoor
/- A staged region where three operations may come up. -/
namespace Go.Proofs.YtlbldpkgnonbpaaGreatDoor
open Go
section
variable {P : Program} {ops : Array Oper} {Q : Exit → Act → World → Prop} {md : Region.Mode} {b : Nat} {S : World → Prop}
theorem wpAnyB_three {i j k : Nat} (dst : Option Tmp) (op : Op) (ty : TypeId) (dst' : Option Tmp) (op' : Op) (ty' : TypeId) (dst'' : Option Tmp) (op'' : Op) (ty'' : TypeId) {fuel : Nat} {listed : Array Bool} {a : Act} {w : World} (hi : isBare ops i dst op ty) (hj : isBare ops j dst' op' ty') (hk : isBare ops k dst'' op'' ty'') (hr : Region.ready md ops listed = [i, j, k])
 (h : ∀ K : Act → World → Prop, RowKit.Hid (∀ a w, ((listed.setIfInBounds i true).getD b true = false → S w) → wpAnyB P md ops Q b S fuel (listed.setIfInBounds i true) a w → K a w) → Oper.wp P (bareOp dst op ty) a w K Q)
 (h' : ∀ K : Act → World → Prop, RowKit.Hid (∀ a w, ((listed.setIfInBounds j true).getD b true = false → S w) → wpAnyB P md ops Q b S fuel (listed.setIfInBounds j true) a w → K a w) → Oper.wp P (bareOp dst' op' ty') a w K Q)
 (h'' : ∀ K : Act → World → Prop, RowKit.Hid (∀ a w, ((listed.setIfInBounds k true).getD b true = false → S w) → wpAnyB P md ops Q b S fuel (listed.setIfInBounds k true) a w → K a w) → Oper.wp P (bareOp dst'' op'' ty'') a w K Q) :
 wpAnyB P md ops Q b S (fuel + 1) listed a w := by
 have one : ∀ (n : Nat) (d : Option Tmp) (p : Op) (t : TypeId), isBare ops n d p t → (∀ K : Act → World → Prop, RowKit.Hid (∀ a w, ((listed.setIfInBounds n true).getD b true = false → S w) → wpAnyB P md ops Q b S fuel (listed.setIfInBounds n true) a w → K a w) → Oper.wp P (bareOp d p t) a w K Q) →
  wpOp P ops Q n (fun a' w' => ((listed.setIfInBounds n true).getD b true = false → S w') ∧ wpAnyB P md ops Q b S fuel (listed.setIfInBounds n true) a' w') a w := by
  intro n d p t hn hh
  obtain ⟨o, ho, rfl, h1, h2, h3⟩ := hn
  refine wpOp_step ho (fun K hK => ?_)
  rw [if_pos (by simp [Region.wanted, h3])]
  have h4 := hh K (Lh fun a w hS hW => hK a w ⟨hS, hW⟩)
  unfold Oper.wp at h4 ⊢
  rw [exec_bare (dst := o.dst) h1 h2]
  exact h4
 refine ⟨fun h0 => (by rw [hr] at h0; cases h0), fun n hn => ?_⟩
 rw [hr] at hn
 simp only [List.mem_cons, List.not_mem_nil, or_false] at hn
 rcases hn with rfl | rfl | rfl
 · exact one _ _ _ _ hi h
 · exact one _ _ _ _ hj h'
 · exact one _ _ _ _ hk h''
end
end Go.Proofs.YtlbldpkgnonbpaaGreatDoor
/- Staged regions inside a round of a range over a function, where no bound stands on the calls. -/
namespace Go.Proofs.YtlbldpkgnonbpaaGreatDoor
open Go
def OnlyN (Q : Exit → Act → World → Prop) : Exit → Act → World → Prop
 | .normal, a, w => Q .normal a w
 | _, _, _ => False
theorem OnlyN.never {Q : Exit → Act → World → Prop} : ¬ LetsOut (OnlyN Q) := fun ⟨_, _, h⟩ => h
def Op.noDefer : Op → Bool
 | .defer _ => false
 | _ => true
section
variable {P : Program} {ops : Array Oper} {Q : Exit → Act → World → Prop} {md : Region.Mode} {l n : Nat}
theorem oper_in {o : Oper} (hd : Op.noDefer o.op = true) {a : Act} {w : World} {K : Act → World → Prop} (h : o.wp P a w K (OnlyN Q)) : o.wpIn (Fence.wide.inRound l) n P a w K Q := by
 refine ⟨fun _ _ => trivial, ?_⟩
 rw [Oper.semAt_plain _ _ _ (fun c hc => by rw [hc] at hd; cases hd)]
 unfold Oper.wp at h
 generalize (execOp a.eval o).run P w = r at *
 cases r with
 | ok x w' =>
  cases x <;> simp only [Oper.upon, Oper.uponIn] at h ⊢ <;> first | exact h | skip
  case enter f args =>
   refine ⟨(fun hx => by cases hx), CallsIn.inRound l (callsIn_wide.2 (Calls.mono h fun e w'' he => ?_))⟩
   cases e with
   | returned v => exact he
   | panicked c => exact he.elim
   | outgrown => exact (OnlyN.never he).elim
  case row row args =>
   refine ⟨(fun hx => by cases hx), fun c cs _ => ?_⟩
   obtain ⟨v, w', r, s⟩ := h c cs
   exact ⟨v, w', r, stepsIn_wide.2 s⟩
 | halt x w' => cases x <;> simp only [Oper.upon, Oper.uponIn] at h ⊢ <;> exact h.elim
end
end Go.Proofs.YtlbldpkgnonbpaaGreatDoor
