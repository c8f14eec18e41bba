/- Arrays at single operations: laid, boxed, loaded, stored; what each leaves of the world. -/
import Derived.Test.YtmcpfinnhgbcpaaDoorDigB
import Derived.Deep.WholeRow
namespace Go.Proofs.YtmcpfinnhgbcpaaDoor
open Go Go.RowKit Sha
set_option linter.unusedSimpArgs false
set_option linter.unusedVariables false

/-- A new array in a block of its own. -/
structure Fresh (k : IntKind) (w w' : World) (xs : List Int) : Prop where
  arr : Arr k w' w.heap.size xs
  below : ∀ n, n ≤ w.heap.size → Below n w w'
  size : w'.heap.size = w.heap.size + 1
theorem Fresh.of (k : IntKind) (w : World) (xs : List Int) (t : TypeId) : Fresh k w (w.alloc (.cells (valV k xs) t)) xs :=
  ⟨Arr.new k w xs t _ rfl, fun n hn => (Below.refl n w).alloc hn _, by simp⟩

theorem Arr.laid {k l : IntKind} {w w' : World} {b c q : Nat} {xs ys : List Int} (h : Arr k w c xs) (hL : Laid l w w' b q ys) (hn : c ≠ b) : Arr k w' c xs :=
  ⟨fun i hi => (hL.cell c i hn).trans (h.c i hi), fun i => (hL.frozen _).trans (h.f i), by rw [hL.size]; exact h.lt⟩
theorem Arr.whole {k : IntKind} {w w' : World} {b : Nat} {xs ys : List Int} (h : Arr k w b xs) (hL : Laid k w w' b 0 ys) : Arr k w' b ys :=
  ⟨fun i hi => by rw [← hL.row i hi, Nat.zero_add], fun i => (hL.frozen _).trans (h.f i), by rw [hL.size]; exact h.lt⟩

section
variable {P : Program} {w : World} {o : Oper} {a : Act} {K : Act → World → Prop} {Q : Exit → Act → World → Prop}

theorem wp_allocArr (t : TypeId) (k : IntKind) (n : Nat) (ho : o.op = .alloc t) (hz : (P.info? t).map (fun i => (i.zero, i.size)) = some (some (.agg (valV k (List.replicate n 0))), n))
    (h : ∀ w', Fresh k w w' (List.replicate n 0) → K (a.put o.dst (.pointer (some ⟨w.heap.size, 0, none⟩))) w') : Oper.wp P o a w K Q := by
  have h0 := (zero_of_info hz).1 w
  unfold Oper.wp
  simp [execOp, ho, Instr.alloc, h0, newVar, newRow, Value.cells, Result.andThen]
  exact h _ (Fresh.of k w _ t)

theorem wp_boxArr (t : TypeId) (k : IntKind) (x : Operand) (xs : List Int) (ho : o.op = .box t x) (hx : a.eval x = .agg (valV k xs))
    (h : ∀ w', Fresh k w w' xs → K (a.put o.dst (.pointer (some ⟨w.heap.size, 0, none⟩))) w') : Oper.wp P o a w K Q := by
  unfold Oper.wp
  simp [execOp, ho, hx, Instr.box, newVar, newRow, Value.cells, Result.andThen]
  exact h _ (Fresh.of k w _ t)

theorem wp_loadArr (t : TypeId) (k : IntKind) (p : Operand) (b : Nat) (xs : List Int) (n : Nat) (e : TypeId) (ho : o.op = .load t p) (hp : a.eval p = .pointer (some ⟨b, 0, none⟩)) (hu : P.underlying t = some (.array n e))
    (hi : (P.info? t).map (·.size) = some xs.length) (hA : Arr k w b xs) (h : K (a.put o.dst (.agg (valV k xs))) w) : Oper.wp P o a w K Q := by
  have hrun := run_loadVarArr (P := P) (w := w) t k b 0 xs n e hu hi (fun i hi => by rw [Nat.zero_add]; exact hA.c i hi)
  unfold Oper.wp
  simp [execOp, ho, hp, Instr.loadAt, Instr.sureAddr, hrun, Result.andThen]
  exact h

theorem wp_storeArr (t : TypeId) (k : IntKind) (p v : Operand) (b : Nat) (xs ys : List Int) (ho : o.op = .store t p v) (hd : o.dst = none) (hp : a.eval p = .pointer (some ⟨b, 0, none⟩)) (hv : a.eval v = .agg (valV k xs))
    (hi : (P.info? t).map (·.size) = some xs.length) (hA : Arr k w b ys) (hl : xs.length = ys.length) (h : ∀ w', Laid k w w' b 0 xs → K a w') : Oper.wp P o a w K Q := by
  have hc : ∀ i, i < xs.length → (w.cell? ⟨b, 0 + i, none⟩).isSome = true := fun i hi => by rw [Nat.zero_add, hA.c i (by omega)]; rfl
  have hrun := run_storeVarArr (P := P) (w := w) t k b 0 xs hi hc (fun i _ => hA.f _)
  unfold Oper.wp
  simp [execOp, ho, hp, hv, Instr.storeAt, Instr.sureAddr, hrun, Result.andThen]
  show K (a.put o.dst undef) _
  rw [hd]
  exact h _ (Laid.of k b 0 xs hc)

variable {ops : Array Oper} {rest : List Oper}
theorem wpL_allocArr (hgd : o.guard = none) (t : TypeId) (k : IntKind) (n : Nat) (ho : o.op = .alloc t) (hz : (P.info? t).map (fun i => (i.zero, i.size)) = some (some (.agg (valV k (List.replicate n 0))), n))
    (h : ∀ w', Fresh k w w' (List.replicate n 0) → wpList P ops Q rest (a.put o.dst (.pointer (some ⟨w.heap.size, 0, none⟩))) w') : wpList P ops Q (o :: rest) a w :=
  wpList_plain hgd fun _ hK => wp_allocArr t k n ho hz fun w' hw => hK _ _ (h w' hw)
theorem wpL_boxArr (hgd : o.guard = none) (t : TypeId) (k : IntKind) (x : Operand) (xs : List Int) (ho : o.op = .box t x) (hx : a.eval x = .agg (valV k xs))
    (h : ∀ w', Fresh k w w' xs → wpList P ops Q rest (a.put o.dst (.pointer (some ⟨w.heap.size, 0, none⟩))) w') : wpList P ops Q (o :: rest) a w :=
  wpList_plain hgd fun _ hK => wp_boxArr t k x xs ho hx fun w' hw => hK _ _ (h w' hw)
theorem wpL_loadArr (hgd : o.guard = none) (t : TypeId) (k : IntKind) (p : Operand) (b : Nat) (xs : List Int) (n : Nat) (e : TypeId) (ho : o.op = .load t p) (hp : a.eval p = .pointer (some ⟨b, 0, none⟩)) (hu : P.underlying t = some (.array n e))
    (hi : (P.info? t).map (·.size) = some xs.length) (hA : Arr k w b xs) (h : wpList P ops Q rest (a.put o.dst (.agg (valV k xs))) w) : wpList P ops Q (o :: rest) a w :=
  wpList_plain hgd fun _ hK => wp_loadArr t k p b xs n e ho hp hu hi hA (hK _ _ h)
theorem wpL_storeArr (hgd : o.guard = none) (t : TypeId) (k : IntKind) (p v : Operand) (b : Nat) (xs ys : List Int) (ho : o.op = .store t p v) (hd : o.dst = none) (hp : a.eval p = .pointer (some ⟨b, 0, none⟩)) (hv : a.eval v = .agg (valV k xs))
    (hi : (P.info? t).map (·.size) = some xs.length) (hA : Arr k w b ys) (hl : xs.length = ys.length) (h : ∀ w', Laid k w w' b 0 xs → wpList P ops Q rest a w') : wpList P ops Q (o :: rest) a w :=
  wpList_plain hgd fun _ hK => wp_storeArr t k p v b xs ys ho hd hp hv hi hA hl fun w' hw => hK _ _ (h w' hw)
end
end Go.Proofs.YtmcpfinnhgbcpaaDoor
