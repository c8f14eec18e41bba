/- The marks that ranges over functions leave among the deferred calls; what is kept but for some blocks. -/
import Derived.Test.YtjfaaicbojnpaaaOth
import Derived.Test.YtjfaaicbojnpaaaDeal
namespace Go.Proofs.Ytjfaaicbojnpaaa
open Go.RowKit Go.Shelf Num
set_option linter.unusedSimpArgs false
set_option linter.unusedVariables false

/-- Whatever lay in the heap of W lies there as before, but for some blocks. -/
structure KeptBut (bs : List Nat) (W W' : World) : Prop where
  os : W'.os = W.os
  tape : W'.tape = W.tape
  output : W'.output = W.output
  size : W.heap.size ≤ W'.heap.size
  block : ∀ k, k < W.heap.size → k ∉ bs → W'.heap[k]? = W.heap[k]?
theorem KeptBut.refl (bs : List Nat) (W : World) : KeptBut bs W W := ⟨rfl, rfl, rfl, Nat.le_refl _, fun _ _ _ => rfl⟩
theorem KeptBut.trans {bs : List Nat} {A B C : World} (h : KeptBut bs A B) (k : KeptBut bs B C) : KeptBut bs A C :=
  ⟨k.os.trans h.os, k.tape.trans h.tape, k.output.trans h.output, Nat.le_trans h.size k.size, fun i hi hb => (k.block i (Nat.lt_of_lt_of_le hi h.size) hb).trans (h.block i hi hb)⟩
theorem KeptBut.of_below {bs : List Nat} {A B : World} (h : Below A.heap.size A B) : KeptBut bs A B := ⟨h.os, h.tape, h.output, h.size, fun k hk _ => h.block k hk⟩
theorem KeptBut.setCell {bs : List Nat} {A : World} {b o : Nat} (hb : b ∈ bs) (v : Value) : KeptBut bs A (A.setCell ⟨b, o, none⟩ v) := by
  have h := (Below.refl 0 A).setCell (p := ⟨b, o, none⟩) (Nat.zero_le _) v
  exact ⟨h.os, h.tape, h.output, h.size, fun k hk hkb => Below.heap_setCell A ⟨b, o, none⟩ v k (fun e => hkb (by rw [e]; exact hb))⟩
theorem KeptBut.mono {bs cs : List Nat} {A B : World} (h : KeptBut bs A B) (hc : ∀ b, b ∈ bs → b ∈ cs) : KeptBut cs A B := ⟨h.os, h.tape, h.output, h.size, fun k hk hb => h.block k hk (fun hm => hb (hc k hm))⟩
theorem KeptBut.cell {bs : List Nat} {A B : World} (h : KeptBut bs A B) {b o : Nat} (hl : b < A.heap.size) (hb : b ∉ bs) : B.cell? ⟨b, o, none⟩ = A.cell? ⟨b, o, none⟩ := World.cell?_of_block (h.block b hl hb)
theorem KeptBut.frozen {bs : List Nat} {A B : World} (h : KeptBut bs A B) {b o : Nat} (hl : b < A.heap.size) (hb : b ∉ bs) : B.frozen? ⟨b, o, none⟩ = A.frozen? ⟨b, o, none⟩ := World.frozen?_of_block (h.block b hl hb)
theorem KeptBut.below {bs : List Nat} {A B : World} {n : Nat} (h : KeptBut bs A B) (hn : n ≤ A.heap.size) (hb : ∀ b, b ∈ bs → n ≤ b) : Below n A B :=
  ⟨h.os, h.tape, h.output, h.size, fun k hk => h.block k (Nat.lt_of_lt_of_le hk hn) (fun hm => by have := hb k hm; omega)⟩
theorem KeptBut.ownFrom {β : Type} (bs : List Nat) (W0 : World) : OwnFrom W0.heap.size (fun (_ : β) W => KeptBut bs W0 W) := fun s A B row hs hg hr =>
  ⟨hg.os.trans hs.os, hg.tape.trans hs.tape, hg.output.trans hs.output, Nat.le_trans hs.size hg.size, fun k hk hb => (hg.block k (Nat.lt_of_lt_of_le hk hs.size) (fun e => by have := (hr k e.symm).1; omega)).trans (hs.block k hk hb)⟩
theorem OwnU.kept {W W' : World} {bs : List Nat} {n₀ : Nat} {v : Value} {xs : List Int} (h : OwnU W n₀ v xs) (hk : KeptBut bs W W') (hb : ∀ b, b ∈ bs → b < n₀) : OwnU W' n₀ v xs := by
  refine ⟨h.1, ?_⟩
  rcases h.2 with h2 | ⟨g, cap, cur, a, b, c, d⟩
  · exact .inl h2
  · exact .inr ⟨g, cap, cur, a, b, (hk.block g (Array.getElem?_eq_some_iff.1 c).1 (fun hm => by have := hb g hm; omega)).trans c, d⟩

/-- The marks of loops that are over. -/
def marks (ds : List Nat) : List Deferred := ds.map fun D => { target := .collected D, args := #[] }
def MarksAt (W : World) (n : Nat) (ds : List Nat) : Prop := ds.Nodup ∧ ∀ D, D ∈ ds → n ≤ D ∧ W.heap[D]? = some (.deferred (some []))
theorem MarksAt.nil (W : World) (n : Nat) : MarksAt W n [] := ⟨List.nodup_nil, fun _ h => by cases h⟩
theorem MarksAt.lt {W : World} {n : Nat} {ds : List Nat} (h : MarksAt W n ds) {D : Nat} (hD : D ∈ ds) : D < W.heap.size := (Array.getElem?_eq_some_iff.1 (h.2 D hD).2).1
theorem MarksAt.keep {W W' : World} {n : Nat} {ds : List Nat} (h : MarksAt W n ds) (hb : Below W.heap.size W W') : MarksAt W' n ds :=
  ⟨h.1, fun D hD => ⟨(h.2 D hD).1, (hb.block D (h.lt hD)).trans (h.2 D hD).2⟩⟩
theorem MarksAt.kept {W W' : World} {n : Nat} {bs : List Nat} {ds : List Nat} (h : MarksAt W n ds) (hk : KeptBut bs W W') (hb : ∀ b, b ∈ bs → b < n) : MarksAt W' n ds :=
  ⟨h.1, fun D hD => ⟨(h.2 D hD).1, (hk.block D (h.lt hD) (fun hm => by have := hb D hm; have := (h.2 D hD).1; omega)).trans (h.2 D hD).2⟩⟩
theorem MarksAt.cons {W : World} {n : Nat} {ds : List Nat} (h : MarksAt W n ds) {D : Nat} (hD : D ∉ ds) (hn : n ≤ D) (hk : W.heap[D]? = some (.deferred (some []))) : MarksAt W n (D :: ds) :=
  ⟨List.nodup_cons.2 ⟨hD, h.1⟩, fun E hE => by
    rcases List.mem_cons.1 hE with rfl | hE
    · exact ⟨hn, hk⟩
    · exact h.2 E hE⟩
theorem MarksAt.grown {W W' : World} {n : Nat} {ds : List Nat} {g : Option Nat} (h : MarksAt W n ds) (hg : W.grownBy W' g) (hc : ∀ k, g = some k → ∃ o, W.heap[k]? = some o ∧ o.isCells = true) : MarksAt W' n ds :=
  ⟨h.1, fun D hD => ⟨(h.2 D hD).1, (hg.block D (h.lt hD) (fun e => by
    obtain ⟨o, ho, hoc⟩ := hc D e.symm
    rw [(h.2 D hD).2] at ho
    cases ho
    cases hoc)).trans (h.2 D hD).2⟩⟩

theorem putObj_kept (W : World) (D : Nat) (o : Obj) : KeptBut [D] W (W.putObj D o) :=
  ⟨rfl, rfl, rfl, by simp [World.putObj], fun k _ hk => World.putObj_heap_other (fun e => hk (by simp [e]))⟩
/-- A function's way out over the marks. -/
theorem leaves_marks {F : Fence} {n n₀ : Nat} {P : Program} {fn : Func} {tmps : Array Value} {R : Ending → World → Prop} : ∀ (ds : List Nat) (W : World), MarksAt W n₀ ds →
    (∀ W', KeptBut ds W W' → W'.heap.size = W.heap.size → ∃ v, (results fn tmps).run P W' = .ok v W' ∧ R (.returned v) W') → LeavesInM F n P fn tmps R (marks ds) .returning W
  | [], W, _, h => h W (KeptBut.refl _ _) rfl
  | D :: ds, W, hm, h => by
    have hk := (hm.2 D (by simp)).2
    refine ⟨by simp, .inl ⟨D, _, rfl, run_takeDeferred hk, ?_⟩⟩
    have hp := putObj_kept W D (.deferred none)
    refine leaves_marks (n₀ := n₀) ds _ ⟨(List.nodup_cons.1 hm.1).2, fun E hE => ⟨(hm.2 E (by simp [hE])).1, (hp.block E (hm.lt (by simp [hE])) (fun e => (List.nodup_cons.1 hm.1).1 (by simp at e; rw [← e]; exact hE))).trans (hm.2 E (by simp [hE])).2⟩⟩ ?_
    intro W' hk' hs
    refine h W' ((hp.mono (by simp)).trans (hk'.mono (fun b hb => by simp [hb]))) (hs.trans (by simp [World.putObj]))
end Go.Proofs.Ytjfaaicbojnpaaa
