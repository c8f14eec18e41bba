/- Arrays of many cells: loaded, stored, handed back; rows of words. -/
import Derived.Test.YtmcpfinnhgbcpaaDoorBase
import Derived.Test.YtmcpfinnhgbcpaaDoorRowI
import Derived.Test.YtmcpfinnhgbcpaaDoorSha
import Derived.Laws.IdiomCopy
import Derived.Laws.CopyOwn
import Derived.Laws.ShiftsVar
import Derived.Laws.Rows
import Derived.Laws.Tables
import Derived.LoopTactic
import Derived.RangeFuncOwn
namespace Go.Proofs.YtmcpfinnhgbcpaaDoor
open Go Go.RowKit
set_option linter.unusedSimpArgs false
set_option linter.unusedVariables false

/-- A row of numbers of a kind in a block. -/
def Lies (k : IntKind) (w : World) (b o : Nat) (xs : List Int) : Prop := b < w.heap.size ∧ ∀ i, i < xs.length → w.cell? ⟨b, o + i, none⟩ = some (.int k (xs.getD i 0))
theorem Lies.keep {k : IntKind} {w w' : World} {b o : Nat} {xs : List Int} (h : Lies k w b o xs) (hb : Below w.heap.size w w') : Lies k w' b o xs :=
  ⟨Nat.lt_of_lt_of_le h.1 hb.size, fun i hi => (hb.cell (p := ⟨b, o + i, none⟩) h.1).trans (h.2 i hi)⟩
theorem Lies.alloc {k : IntKind} {w : World} {b o : Nat} {xs : List Int} (h : Lies k w b o xs) (ob : Obj) : Lies k (w.alloc ob) b o xs := h.keep ((Below.refl _ _).alloc (Nat.le_refl _) ob)
theorem Lies.drew {k : IntKind} {w : World} {b o : Nat} {xs : List Int} (h : Lies k w b o xs) : Lies k w.drew b o xs := h.keep (Below.refl _ _).drew
theorem Lies.far {k : IntKind} {w : World} {b o c p : Nat} {xs : List Int} (h : Lies k w b o xs) (hn : c ≠ b) (v : Value) : Lies k (w.setCell ⟨c, p, none⟩ v) b o xs :=
  ⟨by simpa using h.1, fun i hi => by rw [World.cell?_setCell_other _ _ _ _ (by simp [hn])]; exact h.2 i hi⟩
theorem Lies.set {k : IntKind} {w : World} {b o : Nat} {xs : List Int} (h : Lies k w b o xs) (i : Nat) (hi : i < xs.length) (x : Int) : Lies k (w.setCell ⟨b, o + i, none⟩ (.int k x)) b o (xs.set i x) := by
  refine ⟨by simpa using h.1, fun j hj => ?_⟩
  rw [List.length_set] at hj
  by_cases e : j = i
  · subst e
    rw [World.cell?_setCell_same _ _ _ (h.2 j hj)]
    simp [List.getD_eq_getElem?_getD, hi]
  · rw [World.cell?_setCell_other _ _ _ _ (by simp [Ne.symm e]), h.2 j hj]
    simp [List.getD_eq_getElem?_getD, List.getElem?_set, Ne.symm e]

/-- Numbers of a kind as an array's value. -/
def valV (k : IntKind) (xs : List Int) : Array Value := (xs.map (Value.int k)).toArray
theorem valV_size (k : IntKind) (xs : List Int) : (valV k xs).size = xs.length := by simp [valV]
theorem valV_get (k : IntKind) (xs : List Int) (i : Nat) (h : i < xs.length) : (valV k xs)[i]? = some (.int k (xs.getD i 0)) := by
  simp [valV, h, List.getD_eq_getElem?_getD]
theorem valV_one (k : IntKind) (xs : List Int) : ∀ v ∈ xs.map (Value.int k), v.oneCell' = true := by
  intro v hv; obtain ⟨_, _, rfl⟩ := List.mem_map.1 hv; rfl

section
variable {P : Program} {w : World}

theorem cellsAt (k : IntKind) {b o : Nat} {xs : List Int} (hc : ∀ i, i < xs.length → w.cell? ⟨b, o + i, none⟩ = some (.int k (xs.getD i 0))) :
    ∀ j v, (xs.map (Value.int k))[j]? = some v → w.cell? ((⟨b, o, none⟩ : Addr).add j) = some v := by
  intro j v hv
  have hj : j < xs.length := by simpa using (List.getElem?_eq_some_iff.1 hv).1
  rw [add_plain', hc j hj, ← hv]
  simp [List.getD_eq_getElem?_getD, hj]

theorem run_loadVarArr (t : TypeId) (k : IntKind) (b o : Nat) (xs : List Int) (n : Nat) (e : TypeId) (hu : P.underlying t = some (.array n e)) (hi : (P.info? t).map (·.size) = some xs.length)
    (hc : ∀ i, i < xs.length → w.cell? ⟨b, o + i, none⟩ = some (.int k (xs.getD i 0))) : (loadVar t ⟨b, o, none⟩).run P w = .ok (.agg (valV k xs)) w := by
  have h := run_loadCells_list (P := P) w ⟨b, o, none⟩ (xs.map (Value.int k)) (cellsAt k hc)
  rw [List.length_map] at h
  cases hq : P.info? t with
  | none => simp [hq] at hi
  | some i =>
    have hz : i.size = xs.length := by simpa [hq] using hi
    simp [loadVar, isAgg, run_underlying hu, sizeOf, typeInfo, hq, hz, h, valV]

/-- A whole array is loaded. -/
theorem wpList_loadArr {ops : Array Oper} {rest : List Oper} {o : Oper} {a : Act} {Q : Exit → Act → World → Prop} (hgd : o.guard = none) (t : TypeId) (p : Operand) (ho : o.op = .load t p)
    (k : IntKind) (b q : Nat) (xs : List Int) (n : Nat) (e : TypeId) (hp : a.eval p = .pointer (some ⟨b, q, none⟩)) (hu : P.underlying t = some (.array n e)) (hi : (P.info? t).map (·.size) = some xs.length)
    (hc : ∀ i, i < xs.length → w.cell? ⟨b, q + i, none⟩ = some (.int k (xs.getD i 0))) (h : wpList P ops Q rest (a.put o.dst (.agg (valV k xs))) w) : wpList P ops Q (o :: rest) a w := by
  refine wpList_plain hgd fun K hK => ?_
  have hrun := run_loadVarArr (P := P) (w := w) t k b q xs n e hu hi hc
  unfold Oper.wp
  simp [execOp, ho, hp, Instr.loadAt, Instr.sureAddr, hrun, Result.andThen]
  exact hK _ _ h

theorem run_storeVarArr (t : TypeId) (k : IntKind) (b q : Nat) (xs : List Int) (hi : (P.info? t).map (·.size) = some xs.length)
    (hc : ∀ i, i < xs.length → (w.cell? ⟨b, q + i, none⟩).isSome = true) (hf : ∀ i, i < xs.length → w.frozen? ⟨b, q + i, none⟩ = false) :
    (storeVar t ⟨b, q, none⟩ (.agg (valV k xs))).run P w = .ok () (w.setCells b q (xs.map (Value.int k))) := by
  have h := run_storeCells_cells (P := P) b q (xs.map (Value.int k)) 0 w (by simpa using hc) (by simpa using hf) (valV_one k xs)
  cases hq : P.info? t with
  | none => simp [hq] at hi
  | some i =>
    have hz : i.size = xs.length := by simpa [hq] using hi
    simp [storeVar, sizeOf, typeInfo, hq, hz, Value.cells, valV]
    simpa using h

theorem below_setCells {n b : Nat} (hb : n ≤ b) : ∀ (vs : List Value) (q : Nat) (w : World), Below n w (w.setCells b q vs)
  | [], _, w => Below.refl _ _
  | v :: r, q, w => ((Below.refl n w).setCell (p := ⟨b, q, none⟩) hb v).trans (below_setCells hb r (q + 1) _)

/-- What a store of a whole array leaves: the row lies there, every other block is as it was. -/
structure Laid (k : IntKind) (w w' : World) (b q : Nat) (xs : List Int) : Prop where
  row : ∀ i, i < xs.length → w'.cell? ⟨b, q + i, none⟩ = some (.int k (xs.getD i 0))
  cell : ∀ c o, c ≠ b → w'.cell? ⟨c, o, none⟩ = w.cell? ⟨c, o, none⟩
  beside : ∀ o, o < q ∨ q + xs.length ≤ o → w'.cell? ⟨b, o, none⟩ = w.cell? ⟨b, o, none⟩
  frozen : ∀ x, w'.frozen? x = w.frozen? x
  below : ∀ n, n ≤ b → Below n w w'
  size : w'.heap.size = w.heap.size
  oth : KeepsOthers w w'
theorem oth_setCells (b : Nat) : ∀ (vs : List Value) (q : Nat) (w : World), KeepsOthers w (w.setCells b q vs)
  | [], _, _ => KeepsOthers.refl _
  | v :: r, q, w => (KeepsOthers.setCell w ⟨b, q, none⟩ v).trans (oth_setCells b r (q + 1) _)
theorem size_setCells (b : Nat) : ∀ (vs : List Value) (q : Nat) (w : World), (w.setCells b q vs).heap.size = w.heap.size
  | [], _, _ => rfl
  | v :: r, q, w => by rw [World.setCells, size_setCells b r]; simp
theorem Laid.of (k : IntKind) (b q : Nat) (xs : List Int) (hc : ∀ i, i < xs.length → (w.cell? ⟨b, q + i, none⟩).isSome = true) : Laid k w (w.setCells b q (xs.map (Value.int k))) b q xs where
  row i hi := by
    rw [World.cell?_setCells_in b _ q w (by simpa using hc) i (by simpa using hi)]
    simp [List.getD_eq_getElem?_getD, hi]
  cell c o hn := World.cell?_setCells_out b _ q w _ (fun h => absurd h hn)
  beside o ho := World.cell?_setCells_out b _ q w _ (fun _ _ => by simpa using ho)
  frozen x := World.frozen?_setCells b _ q w x
  below n hn := below_setCells hn _ _ _
  size := size_setCells _ _ _ _
  oth := oth_setCells _ _ _ _

/-- A whole array is stored. -/
theorem wpList_storeArr {ops : Array Oper} {rest : List Oper} {o : Oper} {a : Act} {Q : Exit → Act → World → Prop} (hgd : o.guard = none) (t : TypeId) (p v : Operand) (ho : o.op = .store t p v) (hd : o.dst = none)
    (k : IntKind) (b q : Nat) (xs : List Int) (hp : a.eval p = .pointer (some ⟨b, q, none⟩)) (hv : a.eval v = .agg (valV k xs)) (hi : (P.info? t).map (·.size) = some xs.length)
    (hc : ∀ i, i < xs.length → (w.cell? ⟨b, q + i, none⟩).isSome = true) (hf : ∀ i, i < xs.length → w.frozen? ⟨b, q + i, none⟩ = false)
    (h : ∀ w', Laid k w w' b q xs → wpList P ops Q rest a w') : wpList P ops Q (o :: rest) a w := by
  refine wpList_plain hgd fun K hK => ?_
  have hrun := run_storeVarArr (P := P) (w := w) t k b q xs hi hc hf
  unfold Oper.wp
  simp [execOp, ho, hp, hv, Instr.storeAt, Instr.sureAddr, hrun, Result.andThen]
  exact hK _ _ (by rw [hd]; exact h _ (Laid.of k b q xs hc))

/-- What a function hands back whose result is an array. -/
theorem res_arr {fn : Func} {c : Tmp} {t : TypeId} (k : IntKind) (b q : Nat) (xs : List Int) (n : Nat) (e : TypeId) (h : fn.results = #[.cell c t]) (hu : P.underlying t = some (.array n e)) (hi : (P.info? t).map (·.size) = some xs.length)
    (tmps : Array Value) (hp : tmps[c]?.getD undef = .pointer (some ⟨b, q, none⟩)) (hc : ∀ i, i < xs.length → w.cell? ⟨b, q + i, none⟩ = some (.int k (xs.getD i 0))) :
    (results fn tmps).run P w = .ok (.agg (valV k xs)) w := by
  have hrun := run_loadVarArr (P := P) (w := w) t k b q xs n e hu hi hc
  simp [results, h, hp, asAddr, hrun, Sem.run_bind, Result.andThen]
theorem res_arr2 {fn : Func} {c u : Tmp} {t : TypeId} {v : Value} (k : IntKind) (b q : Nat) (xs : List Int) (n : Nat) (e : TypeId) (h : fn.results = #[.cell c t, .tmp u]) (hu : P.underlying t = some (.array n e)) (hi : (P.info? t).map (·.size) = some xs.length)
    (tmps : Array Value) (hp : tmps[c]?.getD undef = .pointer (some ⟨b, q, none⟩)) (hv : tmps[u]?.getD undef = v) (hc : ∀ i, i < xs.length → w.cell? ⟨b, q + i, none⟩ = some (.int k (xs.getD i 0))) :
    (results fn tmps).run P w = .ok (.tuple #[.agg (valV k xs), v]) w := by
  have hrun := run_loadVarArr (P := P) (w := w) t k b q xs n e hu hi hc
  simp [results, h, hp, hv, asAddr, hrun, Sem.run_bind, Result.andThen]
end
end Go.Proofs.YtmcpfinnhgbcpaaDoor
