/- Folded: Dig, DigA, DigB, DigL, DigC. -/
import Derived.Test.YtlbldpkgnonbpaaGreatDoorQsA
import Derived.Test.YtlbldpkgnonbpaaGreatDoorQsC
import Derived.Laws.IdiomCopy
import Derived.Laws.CopyOwn
import Derived.Laws.ShiftsVar
import Derived.Laws.Rows
import Derived.Laws.Tables
import Derived.LoopTactic
import Derived.RangeFuncOwn
import Derived.BigQuiet
import Derived.Deep.WholeRow
import Derived.Test.YtlbldpkgnonbpaaGreatDoorQsD
import Derived.Deep.Cut
import Derived.Deep.CutRange
set_option linter.unusedSimpArgs false
set_option linter.unusedVariables false
set_option maxRecDepth 100000
/- Arrays of many cells: loaded, stored, handed back; rows of words. -/
namespace Go.Proofs.YtlbldpkgnonbpaaGreatDoor
open Go Go.RowKit
def Lies (k : IntKind) (w : World) (b o : Nat) (xs : List Int) : Prop := b < w.heap.size ∧ ∀ i, i < xs.length → w.cell? ⟨b, o + i, none⟩ = some (.int k (xs.getD i 0))
theorem Lies.keep {k : IntKind} {w w' : World} {b o : Nat} {xs : List Int} (h : Lies k w b o xs) (hb : Below w.heap.size w w') : Lies k w' b o xs :=
 ⟨Nat.lt_of_lt_of_le h.1 hb.size, fun i hi => (hb.cell (p := ⟨b, o + i, none⟩) h.1).trans (h.2 i hi)⟩
theorem Lies.alloc {k : IntKind} {w : World} {b o : Nat} {xs : List Int} (h : Lies k w b o xs) (ob : Obj) : Lies k (w.alloc ob) b o xs := h.keep ((Below.refl _ _).alloc (Nat.le_refl _) ob)
theorem Lies.drew {k : IntKind} {w : World} {b o : Nat} {xs : List Int} (h : Lies k w b o xs) : Lies k w.drew b o xs := h.keep (Below.refl _ _).drew
theorem Lies.far {k : IntKind} {w : World} {b o c p : Nat} {xs : List Int} (h : Lies k w b o xs) (hn : c ≠ b) (v : Value) : Lies k (w.setCell ⟨c, p, none⟩ v) b o xs :=
 ⟨by simpa using h.1, fun i hi => by rw [World.cell?_setCell_other _ _ _ _ (by simp [hn])]; exact h.2 i hi⟩
theorem Lies.set {k : IntKind} {w : World} {b o : Nat} {xs : List Int} (h : Lies k w b o xs) (i : Nat) (hi : i < xs.length) (x : Int) : Lies k (w.setCell ⟨b, o + i, none⟩ (.int k x)) b o (xs.set i x) := by
 refine ⟨by simpa using h.1, fun j hj => ?_⟩
 rw [List.length_set] at hj
 by_cases e : j = i
 · subst e
   rw [World.cell?_setCell_same _ _ _ (h.2 j hj)]
   simp [List.getD_eq_getElem?_getD, hi]
 · rw [World.cell?_setCell_other _ _ _ _ (by simp [Ne.symm e]), h.2 j hj]
   simp [List.getD_eq_getElem?_getD, List.getElem?_set, Ne.symm e]
def valV (k : IntKind) (xs : List Int) : Array Value := (xs.map (Value.int k)).toArray
theorem valV_get (k : IntKind) (xs : List Int) (i : Nat) (h : i < xs.length) : (valV k xs)[i]? = some (.int k (xs.getD i 0)) := by
 simp [valV, h, List.getD_eq_getElem?_getD]
theorem valV_one (k : IntKind) (xs : List Int) : ∀ v ∈ xs.map (Value.int k), v.oneCell' = true := by
 intro v hv; obtain ⟨_, _, rfl⟩ := List.mem_map.1 hv; rfl
section
variable {P : Program} {w : World}
theorem cellsAt (k : IntKind) {b o : Nat} {xs : List Int} (hc : ∀ i, i < xs.length → w.cell? ⟨b, o + i, none⟩ = some (.int k (xs.getD i 0))) :
 ∀ j v, (xs.map (Value.int k))[j]? = some v → w.cell? ((⟨b, o, none⟩ : Addr).add j) = some v := by
 intro j v hv
 have hj : j < xs.length := by simpa using (List.getElem?_eq_some_iff.1 hv).1
 rw [add_plain', hc j hj, ← hv]
 simp [List.getD_eq_getElem?_getD, hj]
theorem run_loadVarArr (t : TypeId) (k : IntKind) (b o : Nat) (xs : List Int) (n : Nat) (e : TypeId) (hu : P.underlying t = some (.array n e)) (hi : (P.info? t).map (·.size) = some xs.length)
 (hc : ∀ i, i < xs.length → w.cell? ⟨b, o + i, none⟩ = some (.int k (xs.getD i 0))) : (loadVar t ⟨b, o, none⟩).run P w = .ok (.agg (valV k xs)) w := by
 have h := run_loadCells_list (P := P) w ⟨b, o, none⟩ (xs.map (Value.int k)) (cellsAt k hc)
 rw [List.length_map] at h
 cases hq : P.info? t with
 | none => simp [hq] at hi
 | some i =>
  have hz : i.size = xs.length := by simpa [hq] using hi
  simp [loadVar, isAgg, run_underlying hu, sizeOf, typeInfo, hq, hz, h, valV]
theorem wpList_loadArr {ops : Array Oper} {rest : List Oper} {o : Oper} {a : Act} {Q : Exit → Act → World → Prop} (hgd : o.guard = none) (t : TypeId) (p : Operand) (ho : o.op = .load t p)
 (k : IntKind) (b q : Nat) (xs : List Int) (n : Nat) (e : TypeId) (hp : a.eval p = .pointer (some ⟨b, q, none⟩)) (hu : P.underlying t = some (.array n e)) (hi : (P.info? t).map (·.size) = some xs.length)
 (hc : ∀ i, i < xs.length → w.cell? ⟨b, q + i, none⟩ = some (.int k (xs.getD i 0))) (h : wpList P ops Q rest (a.put o.dst (.agg (valV k xs))) w) : wpList P ops Q (o :: rest) a w := by
 refine wpList_plain hgd fun K hK => ?_
 have hrun := run_loadVarArr (P := P) (w := w) t k b q xs n e hu hi hc
 unfold Oper.wp
 simp [execOp, ho, hp, Instr.loadAt, Instr.sureAddr, hrun, Result.andThen]
 exact hK _ _ h
theorem run_storeVarArr (t : TypeId) (k : IntKind) (b q : Nat) (xs : List Int) (hi : (P.info? t).map (·.size) = some xs.length)
 (hc : ∀ i, i < xs.length → (w.cell? ⟨b, q + i, none⟩).isSome = true) (hf : ∀ i, i < xs.length → w.frozen? ⟨b, q + i, none⟩ = false) :
 (storeVar t ⟨b, q, none⟩ (.agg (valV k xs))).run P w = .ok () (w.setCells b q (xs.map (Value.int k))) := by
 have h := run_storeCells_cells (P := P) b q (xs.map (Value.int k)) 0 w (by simpa using hc) (by simpa using hf) (valV_one k xs)
 cases hq : P.info? t with
 | none => simp [hq] at hi
 | some i =>
  have hz : i.size = xs.length := by simpa [hq] using hi
  simp [storeVar, sizeOf, typeInfo, hq, hz, Value.cells, valV]
  simpa using h
theorem below_setCells {n b : Nat} (hb : n ≤ b) : ∀ (vs : List Value) (q : Nat) (w : World), Below n w (w.setCells b q vs)
 | [], _, w => Below.refl _ _
 | v :: r, q, w => ((Below.refl n w).setCell (p := ⟨b, q, none⟩) hb v).trans (below_setCells hb r (q + 1) _)
structure Laid (k : IntKind) (w w' : World) (b q : Nat) (xs : List Int) : Prop where
 row : ∀ i, i < xs.length → w'.cell? ⟨b, q + i, none⟩ = some (.int k (xs.getD i 0))
 cell : ∀ c o, c ≠ b → w'.cell? ⟨c, o, none⟩ = w.cell? ⟨c, o, none⟩
 beside : ∀ o, o < q ∨ q + xs.length ≤ o → w'.cell? ⟨b, o, none⟩ = w.cell? ⟨b, o, none⟩
 frozen : ∀ x, w'.frozen? x = w.frozen? x
 below : ∀ n, n ≤ b → Below n w w'
 size : w'.heap.size = w.heap.size
 oth : KeepsOthers w w'
theorem oth_setCells (b : Nat) : ∀ (vs : List Value) (q : Nat) (w : World), KeepsOthers w (w.setCells b q vs)
 | [], _, _ => KeepsOthers.refl _
 | v :: r, q, w => (KeepsOthers.setCell w ⟨b, q, none⟩ v).trans (oth_setCells b r (q + 1) _)
theorem size_setCells (b : Nat) : ∀ (vs : List Value) (q : Nat) (w : World), (w.setCells b q vs).heap.size = w.heap.size
 | [], _, _ => rfl
 | v :: r, q, w => by rw [World.setCells, size_setCells b r]; simp
theorem Laid.of (k : IntKind) (b q : Nat) (xs : List Int) (hc : ∀ i, i < xs.length → (w.cell? ⟨b, q + i, none⟩).isSome = true) : Laid k w (w.setCells b q (xs.map (Value.int k))) b q xs where
 row i hi := by
  rw [World.cell?_setCells_in b _ q w (by simpa using hc) i (by simpa using hi)]
  simp [List.getD_eq_getElem?_getD, hi]
 cell c o hn := World.cell?_setCells_out b _ q w _ (fun h => absurd h hn)
 beside o ho := World.cell?_setCells_out b _ q w _ (fun _ _ => by simpa using ho)
 frozen x := World.frozen?_setCells b _ q w x
 below n hn := below_setCells hn _ _ _
 size := size_setCells _ _ _ _
 oth := oth_setCells _ _ _ _
theorem wpList_storeArr {ops : Array Oper} {rest : List Oper} {o : Oper} {a : Act} {Q : Exit → Act → World → Prop} (hgd : o.guard = none) (t : TypeId) (p v : Operand) (ho : o.op = .store t p v) (hd : o.dst = none)
 (k : IntKind) (b q : Nat) (xs : List Int) (hp : a.eval p = .pointer (some ⟨b, q, none⟩)) (hv : a.eval v = .agg (valV k xs)) (hi : (P.info? t).map (·.size) = some xs.length)
 (hc : ∀ i, i < xs.length → (w.cell? ⟨b, q + i, none⟩).isSome = true) (hf : ∀ i, i < xs.length → w.frozen? ⟨b, q + i, none⟩ = false)
 (h : ∀ w', Laid k w w' b q xs → wpList P ops Q rest a w') : wpList P ops Q (o :: rest) a w := by
 refine wpList_plain hgd fun K hK => ?_
 have hrun := run_storeVarArr (P := P) (w := w) t k b q xs hi hc hf
 unfold Oper.wp
 simp [execOp, ho, hp, hv, Instr.storeAt, Instr.sureAddr, hrun, Result.andThen]
 exact hK _ _ (by rw [hd]; exact h _ (Laid.of k b q xs hc))
theorem res_arr {fn : Func} {c : Tmp} {t : TypeId} (k : IntKind) (b q : Nat) (xs : List Int) (n : Nat) (e : TypeId) (h : fn.results = #[.cell c t]) (hu : P.underlying t = some (.array n e)) (hi : (P.info? t).map (·.size) = some xs.length)
 (tmps : Array Value) (hp : tmps[c]?.getD undef = .pointer (some ⟨b, q, none⟩)) (hc : ∀ i, i < xs.length → w.cell? ⟨b, q + i, none⟩ = some (.int k (xs.getD i 0))) :
 (results fn tmps).run P w = .ok (.agg (valV k xs)) w := by
 have hrun := run_loadVarArr (P := P) (w := w) t k b q xs n e hu hi hc
 simp [results, h, hp, asAddr, hrun, Sem.run_bind, Result.andThen]
theorem res_arr2 {fn : Func} {c u : Tmp} {t : TypeId} {v : Value} (k : IntKind) (b q : Nat) (xs : List Int) (n : Nat) (e : TypeId) (h : fn.results = #[.cell c t, .tmp u]) (hu : P.underlying t = some (.array n e)) (hi : (P.info? t).map (·.size) = some xs.length)
 (tmps : Array Value) (hp : tmps[c]?.getD undef = .pointer (some ⟨b, q, none⟩)) (hv : tmps[u]?.getD undef = v) (hc : ∀ i, i < xs.length → w.cell? ⟨b, q + i, none⟩ = some (.int k (xs.getD i 0))) :
 (results fn tmps).run P w = .ok (.tuple #[.agg (valV k xs), v]) w := by
 have hrun := run_loadVarArr (P := P) (w := w) t k b q xs n e hu hi hc
 simp [results, h, hp, hv, asAddr, hrun, Sem.run_bind, Result.andThen]
end
end Go.Proofs.YtlbldpkgnonbpaaGreatDoor
/- Rotations and words: bits.RotateLeft32, digest.right, digest.word; the reference's turned and word. -/
namespace Go.Proofs.YtlbldpkgnonbpaaGreatDoor
open Go Go.RowKit Sha
theorem and31 (n : Nat) (h1 : 1 ≤ n) (h2 : n ≤ 31) : bits .and .u64 (IntKind.u64.wrap (-(n : Int))) 31 = 32 - n := by
 have : n = 1 ∨ n = 2 ∨ n = 3 ∨ n = 4 ∨ n = 5 ∨ n = 6 ∨ n = 7 ∨ n = 8 ∨ n = 9 ∨ n = 10 ∨ n = 11 ∨ n = 12 ∨ n = 13 ∨ n = 14 ∨ n = 15 ∨ n = 16 ∨ n = 17 ∨ n = 18 ∨ n = 19 ∨ n = 20 ∨ n = 21 ∨ n = 22 ∨ n = 23 ∨ n = 24 ∨ n = 25 ∨ n = 26 ∨ n = 27 ∨ n = 28 ∨ n = 29 ∨ n = 30 ∨ n = 31 := by omega
 rcases this with rfl | rfl | rfl | rfl | rfl | rfl | rfl | rfl | rfl | rfl | rfl | rfl | rfl | rfl | rfl | rfl | rfl | rfl | rfl | rfl | rfl | rfl | rfl | rfl | rfl | rfl | rfl | rfl | rfl | rfl | rfl <;> decide
set_option maxHeartbeats 1000000 in
theorem dRot_any {x v : Int} {n : Nat} (w : World) (h1 : 1 ≤ n) (h2 : n ≤ 31) (hv : rot x n = v) :
 Calls Tryz.prog 168 #[.int .u32 x, .int .i64 (-(n : Int))] w fun e w' => e = .returned (.int .u32 v) ∧ w = w' := by
 have hs := and31 n h1 h2
 have HV := Lh hv
 clear hv
 have hm : min ((32 : Int) - n).toNat 32 = 32 - n := by omega
 have hw : IntKind.u64.wrap (32 - ((32 : Int) - n)) = n := by rw [IntWalk.u64_in _ (by omega)]; omega
 have hp : (0 : Int) ≤ 32 - (n : Int) := by omega
 go_enter Tryz.func168, Tryz.ntmps168
 go_wp2_with fail
 go_ret
 exact ⟨ret_int (by rw [← HV.o, rot, orI_comm]; rfl), rfl⟩
set_option maxHeartbeats 1000000 in
theorem dright_any {x v : Int} {n : Nat} (w : World) (h1 : 1 ≤ n) (h2 : n ≤ 31) (hv : rot x n = v) :
 Calls Tryz.prog 166 #[.int .u32 x, .int .i64 n] w fun e w' => e = .returned (.int .u32 v) ∧ ∃ n, w' = w.drewN n := by
 have HV := Lh hv
 clear hv
 go_enter Tryz.func166, Tryz.ntmps166
 go_wp2_with fail
 refine (dRot_any w h1 h2 HV.o).mono ?_
 rintro e w1 ⟨rfl, rfl⟩
 go_wp2_with fail
 go_ret
 exact ⟨rfl, 0, rfl⟩
set_option maxHeartbeats 1000000 in
theorem rturned_any {x v : Int} {n : Nat} (w : World) (h1 : 1 ≤ n) (h2 : n ≤ 31) (hv : rot x n = v) :
 Calls Tryz.prog 157 #[.int .u32 x, .int .i64 n] w fun e w' => e = .returned (.int .u32 v) ∧ ∃ n, w' = w.drewN n := by
 have HV := Lh hv
 clear hv
 have hn0 : (0 : Int) ≤ (n : Int) := by omega
 have hm : min n 32 = n := by omega
 have hm2 : min ((32 : Int) - n).toNat 32 = 32 - n := by omega
 have hp : (0 : Int) ≤ 32 - (n : Int) := by omega
 go_enter Tryz.func157, Tryz.ntmps157
 go_wp2_with fail
 go_quiet (fail)
 go_wp2_with fail
 go_ret
 exact ⟨ret_int (by rw [← HV.o, rot]; rfl), _, rfl⟩
theorem dright_z {x z : Int} (w : World) (h1 : 1 ≤ z) (h2 : z ≤ 31) :
 Calls Tryz.prog 166 #[.int .u32 x, .int .i64 z] w fun e w' => e = .returned (.int .u32 (rot x z.toNat)) ∧ ∃ n, w' = w.drewN n := by
 obtain ⟨n, rfl⟩ : ∃ n : Nat, z = n := ⟨z.toNat, by omega⟩
 exact dright_any w (by omega) (by omega) rfl
theorem rturned_z {x z : Int} (w : World) (h1 : 1 ≤ z) (h2 : z ≤ 31) :
 Calls Tryz.prog 157 #[.int .u32 x, .int .i64 z] w fun e w' => e = .returned (.int .u32 (rot x z.toNat)) ∧ ∃ n, w' = w.drewN n := by
 obtain ⟨n, rfl⟩ : ∃ n : Nat, z = n := ⟨z.toNat, by omega⟩
 exact rturned_any w (by omega) (by omega) rfl
theorem wraps32 (n : Int) (h₀ : 0 ≤ n) (h₁ : n < 2 ^ 32) : IntKind.u32.wrap n = n := by rw [wrapM]; omega
theorem or24 {a b : Int} (a0 : 0 ≤ a) (a1 : a < 256) (b0 : 0 ≤ b) (b1 : b < 256) : bits .or .u32 (a * 16777216) (b * 65536) = a * 16777216 + b * 65536 :=
 bits_join .u32 32 (by decide) wraps32 24 _ _ (by omega) (by omega) (by omega) (by omega) (by omega) (by omega)
theorem or16 {a b c : Int} (a0 : 0 ≤ a) (a1 : a < 256) (b0 : 0 ≤ b) (b1 : b < 256) (c0 : 0 ≤ c) (c1 : c < 256) : bits .or .u32 (a * 16777216 + b * 65536) (c * 256) = a * 16777216 + b * 65536 + c * 256 :=
 bits_join .u32 32 (by decide) wraps32 16 _ _ (by omega) (by omega) (by omega) (by omega) (by omega) (by omega)
theorem or8 {a b c d : Int} (a0 : 0 ≤ a) (a1 : a < 256) (b0 : 0 ≤ b) (b1 : b < 256) (c0 : 0 ≤ c) (c1 : c < 256) (d0 : 0 ≤ d) (d1 : d < 256) : bits .or .u32 (a * 16777216 + b * 65536 + c * 256) d = a * 16777216 + b * 65536 + c * 256 + d :=
 bits_join .u32 32 (by decide) wraps32 8 _ _ (by omega) (by omega) (by omega) (by omega) (by omega) (by omega)
set_option maxHeartbeats 1000000 in
theorem dword_any {a b c d v : Int} {s o n m : Nat} (w : World) (hn : 4 ≤ n) (a0 : 0 ≤ a) (a1 : a < 256) (b0 : 0 ≤ b) (b1 : b < 256) (c0 : 0 ≤ c) (c1 : c < 256) (d0 : 0 ≤ d) (d1 : d < 256)
 (h0 : w.cell? ⟨s, o, none⟩ = some (.int .u8 a)) (h1 : w.cell? ⟨s, o + 1, none⟩ = some (.int .u8 b)) (h2 : w.cell? ⟨s, o + 2, none⟩ = some (.int .u8 c)) (h3 : w.cell? ⟨s, o + 3, none⟩ = some (.int .u8 d)) (hv : a * 16777216 + b * 65536 + c * 256 + d = v) :
 Calls Tryz.prog 167 #[.slice (some ⟨s, o, none⟩) n m] w fun e w' => e = .returned (.int .u32 v) ∧ ∃ n, w' = w.drewN n := by
 have HV := Lh hv
 clear hv
 have o1 := or24 a0 a1 b0 b1
 have o2 := or16 a0 a1 b0 b1 c0 c1
 have o3 := or8 a0 a1 b0 b1 c0 c1 d0 d1
 have n0 : (0 : Int) < (n : Int) := by omega
 have n1 : (1 : Int) < (n : Int) := by omega
 have n2 : (2 : Int) < (n : Int) := by omega
 have n3 : (3 : Int) < (n : Int) := by omega
 go_enter Tryz.func167, Tryz.ntmps167
 go_wp2_with fail
 go_quiet (fail)
 go_wp2_with fail
 go_ret
 exact ⟨ret_int HV.o, _, rfl⟩
set_option maxHeartbeats 1000000 in
theorem rword_any {a b c d v : Int} {s o n m k : Nat} (w : World) (hn : k + 4 ≤ n) (hn2 : n < 1000000000) (a0 : 0 ≤ a) (a1 : a < 256) (b0 : 0 ≤ b) (b1 : b < 256) (c0 : 0 ≤ c) (c1 : c < 256) (d0 : 0 ≤ d) (d1 : d < 256)
 (h0 : w.cell? ⟨s, o + k, none⟩ = some (.int .u8 a)) (h1 : w.cell? ⟨s, o + (k + 1), none⟩ = some (.int .u8 b)) (h2 : w.cell? ⟨s, o + (k + 2), none⟩ = some (.int .u8 c)) (h3 : w.cell? ⟨s, o + (k + 3), none⟩ = some (.int .u8 d)) (hv : a * 16777216 + b * 65536 + c * 256 + d = v) :
 Calls Tryz.prog 156 #[.slice (some ⟨s, o, none⟩) n m, .int .i64 k] w fun e w' => e = .returned (.int .u32 v) ∧ ∃ n, w' = w.drewN n := by
 have HV := Lh hv
 clear hv
 have o1 := or24 a0 a1 b0 b1
 have o2 := or16 a0 a1 b0 b1 c0 c1
 have o3 := or8 a0 a1 b0 b1 c0 c1 d0 d1
 have k0 : (0 : Int) ≤ (k : Int) := by omega
 have n0 : (k : Int) < (n : Int) := by omega
 have n1 : (k : Int) + 1 < (n : Int) := by omega
 have n2 : (k : Int) + 2 < (n : Int) := by omega
 have n3 : (k : Int) + 3 < (n : Int) := by omega
 have e1 : ((k : Int) + 1).toNat = k + 1 := by omega
 have e2 : ((k : Int) + 2).toNat = k + 2 := by omega
 have e3 : ((k : Int) + 3).toNat = k + 3 := by omega
 go_enter Tryz.func156, Tryz.ntmps156
 go_wp2_with fail
 go_quiet (fail)
 go_wp2_with fail
 go_ret
 exact ⟨ret_int HV.o, _, rfl⟩
end Go.Proofs.YtlbldpkgnonbpaaGreatDoor
/- digest.spread: the schedule of a block. -/
namespace Go.Proofs.YtlbldpkgnonbpaaGreatDoor
open Go Go.RowKit Sha
structure Arr (k : IntKind) (w : World) (b : Nat) (xs : List Int) : Prop where
 c : ∀ i, i < xs.length → w.cell? ⟨b, i, none⟩ = some (.int k (xs.getD i 0))
 f : ∀ i, w.frozen? ⟨b, i, none⟩ = false
 lt : b < w.heap.size
theorem Arr.keep {k : IntKind} {w w' : World} {b : Nat} {xs : List Int} (h : Arr k w b xs) (hb : Below w.heap.size w w') : Arr k w' b xs :=
 ⟨fun i hi => (hb.cell (p := ⟨b, i, none⟩) h.lt).trans (h.c i hi), fun i => (hb.frozen (p := ⟨b, i, none⟩) h.lt).trans (h.f i), Nat.lt_of_lt_of_le h.lt hb.size⟩
theorem Arr.alloc {k : IntKind} {w : World} {b : Nat} {xs : List Int} (h : Arr k w b xs) (ob : Obj) : Arr k (w.alloc ob) b xs := h.keep ((Below.refl _ _).alloc (Nat.le_refl _) ob)
theorem Arr.drewN {k : IntKind} {w : World} {b : Nat} {xs : List Int} (h : Arr k w b xs) (n : Nat) : Arr k (w.drewN n) b xs := h.keep (below_drewN (Below.refl _ _) n)
theorem Arr.drew {k : IntKind} {w : World} {b : Nat} {xs : List Int} (h : Arr k w b xs) : Arr k w.drew b xs := h.keep (Below.refl _ _).drew
theorem Arr.far {k : IntKind} {w : World} {b c p : Nat} {xs : List Int} (h : Arr k w b xs) (hn : c ≠ b) (v : Value) : Arr k (w.setCell ⟨c, p, none⟩ v) b xs :=
 ⟨fun i hi => by rw [World.cell?_setCell_other _ _ _ _ (by simp [hn])]; exact h.c i hi, fun i => by rw [World.frozen?_setCell]; exact h.f i, by simpa using h.lt⟩
theorem Arr.set {k : IntKind} {w : World} {b : Nat} {xs ys : List Int} (h : Arr k w b xs) (i : Nat) (hi : i < xs.length) {x : Int} (hy : xs.set i x = ys) : Arr k (w.setCell ⟨b, i, none⟩ (.int k x)) b ys := by
 subst hy
 refine ⟨fun j hj => ?_, fun i => by rw [World.frozen?_setCell]; exact h.f i, by simpa using h.lt⟩
 rw [List.length_set] at hj
 by_cases e : j = i
 · subst e
   rw [World.cell?_setCell_same _ _ _ (h.c j hj)]
   simp [List.getD_eq_getElem?_getD, hi]
 · rw [World.cell?_setCell_other _ _ _ _ (by simp [Ne.symm e]), h.c j hj]
   simp [List.getD_eq_getElem?_getD, List.getElem?_set, Ne.symm e]
theorem Arr.new (k : IntKind) (w : World) (xs : List Int) (t : TypeId) (b : Nat) (hb : b = w.heap.size) : Arr k (w.alloc (.cells (valV k xs) t)) b xs := by
 subst hb
 refine ⟨fun i hi => ?_, fun i => ?_, by simp⟩
 · rw [World.cell?_alloc_new]; exact valV_get k xs i hi
 · simp
def wsL (p : List Int) (q n : Nat) : List Int := (List.range 64).map fun i => if i < n then ws p q i else 0
theorem wsL_len (p : List Int) (q n : Nat) : (wsL p q n).length = 64 := by simp [wsL]
theorem wsL_get (p : List Int) (q n i : Nat) (h : i < n) (hi : i < 64) : (wsL p q n).getD i 0 = ws p q i := by
 simp [wsL, List.getD_eq_getElem?_getD, hi, h]
theorem wsL_get0 (p : List Int) (q n i : Nat) (h : ¬ i < n) : (wsL p q n).getD i 0 = 0 := by
 by_cases hi : i < 64
 · simp [wsL, List.getD_eq_getElem?_getD, hi, h]
 · simp [wsL, List.getD_eq_getElem?_getD, hi]
theorem wsL_zero (p : List Int) (q : Nat) : wsL p q 0 = List.replicate 64 0 := by
 simp only [wsL, Nat.not_lt_zero, if_false]
 rfl
theorem wsL_succ (p : List Int) (q n : Nat) (hn : n < 64) {x : Int} (hx : x = ws p q n) : (wsL p q n).set n x = wsL p q (n + 1) := by
 subst hx
 apply List.ext_getElem
 · simp [wsL]
 · intro i h1 h2
   simp only [List.getElem_set, wsL, List.getElem_map, List.getElem_range]
   by_cases e : n = i
   · subst e; simp
   · have : (i < n + 1) = (i < n) := propext (by omega)
     simp [e, this]
def wsAll (p : List Int) (q : Nat) : List Int := wsL p q 64
theorem wsAll_len (p : List Int) (q : Nat) : (wsAll p q).length = 64 := wsL_len p q 64
theorem wsAll_get (p : List Int) (q i : Nat) (hi : i < 64) : (wsAll p q).getD i 0 = ws p q i := wsL_get p q 64 i hi hi
structure Blk (w : World) (s o : Nat) (p : List Int) (q : Nat) : Prop where
 c : ∀ i, i < 64 → w.cell? ⟨s, o + i, none⟩ = some (.int .u8 (p.getD (q + i) 0))
 lt : s < w.heap.size
 b : ∀ i, 0 ≤ p.getD i 0 ∧ p.getD i 0 < 256
theorem Blk.keep {w w' : World} {s o q : Nat} {p : List Int} (h : Blk w s o p q) (hb : Below w.heap.size w w') : Blk w' s o p q :=
 ⟨fun i hi => (hb.cell (p := ⟨s, o + i, none⟩) h.lt).trans (h.c i hi), Nat.lt_of_lt_of_le h.lt hb.size, h.b⟩
theorem Blk.below {w w' : World} {s o q : Nat} {p : List Int} (h : Blk w s o p q) {n : Nat} (hb : Below n w w') (hn : s < n) : Blk w' s o p q :=
 ⟨fun i hi => (hb.cell (p := ⟨s, o + i, none⟩) hn).trans (h.c i hi), Nat.lt_of_lt_of_le h.lt hb.size, h.b⟩
set_option maxHeartbeats 4000000 in
theorem dspread_any {s o m q : Nat} {p : List Int} (w : World) (h : Blk w s o p q) (hm : 64 ≤ m) :
 Calls Tryz.prog 165 #[.slice (some ⟨s, o, none⟩) 64 m] w fun e w' => e = .returned (.agg (valV .u32 (wsAll p q))) ∧ Below w.heap.size w w' := by
 have HS := Lh h
 have hsl := h.lt
 clear h
 go_enter Tryz.func165, Tryz.ntmps165
 have F0 := Lh (show Arr .u32 (w.alloc (.cells (valV .u32 (wsL p q 0)) 209)) w.heap.size (wsL p q 0) from Arr.new _ _ _ _ _ rfl)
 rw [wsL_zero] at F0
 have B0 := Lh (show Below w.heap.size w (w.alloc (.cells (valV .u32 (List.replicate 64 0)) 209)) from (Below.refl _ _).alloc (Nat.le_refl _) _)
 have H0 := Lh (show w.heap.size < (w.alloc (.cells (valV .u32 (List.replicate 64 0)) 209)).heap.size by simp)
 go_wp2_with fail
 go_loopw [7] (fun c7 wr => ∃ k : Nat, k ≤ 16 ∧ c7 = .int .i64 k ∧ Hid (Arr .u32 wr w.heap.size (wsL p q k)) ∧ Hid (Below w.heap.size w wr)) (fun c7 _ => 16 - (intOf c7).toNat)
 case atStart => exact ⟨0, by omega, rfl, by rw [wsL_zero]; exact F0.o, B0.o⟩
 case round =>
  clear F0 B0 H0
  obtain ⟨k, hk, rfl, F, HB⟩ := hrel
  by_cases hlt : k < 16
  case pos =>
   have hd : decide ((k : Int) < 16) = true := by simp; omega
   have k0 : (0 : Int) ≤ (k : Int) := by omega
   have hw4 : IntKind.i64.wrap (4 * (k : Int)) = 4 * (k : Int) := IntWalk.i64_in _ (by omega)
   have e4 : (4 * (k : Int)).toNat = 4 * k := by omega
   have p4 : (0 : Int) ≤ 4 * (k : Int) := by omega
   have l4 : 4 * (k : Int) ≤ 64 := by omega
   have l4n : 4 * k ≤ 64 := by omega
   have m4 : ¬ 4 * k = m := by omega
   have m5 : 4 * k < m := by omega
   have HBk := Lh (HS.o.below HB.o hsl)
   have c0 := HBk.o.c (4 * k) (by omega)
   have c1 := HBk.o.c (4 * k + 1) (by omega)
   have c2 := HBk.o.c (4 * k + 2) (by omega)
   have c3 := HBk.o.c (4 * k + 3) (by omega)
   have fk := F.o.c k (by rw [wsL_len]; omega)
   rw [wsL_get0 _ _ _ _ (by omega)] at fk
   have fz := F.o.f k
   have HC := Lh (And.intro c0 (And.intro c1 (And.intro c2 c3)))
   clear c0 c1 c2 c3
   go_wp2_with fail
   refine (dword_any (v := ws p q k) _ (by omega) (HS.o.b _).1 (HS.o.b _).2 (HS.o.b _).1 (HS.o.b _).2 (HS.o.b _).1 (HS.o.b _).2 (HS.o.b _).1 (HS.o.b _).2 HC.o.1
    (by rw [Nat.add_assoc]; exact HC.o.2.1) (by rw [Nat.add_assoc]; exact HC.o.2.2.1) (by rw [Nat.add_assoc]; exact HC.o.2.2.2) (by rw [ws_lo _ _ _ hlt, wordAt]; rfl)).mono ?_
   rintro e w8 ⟨rfl, n8, rfl⟩
   have hw1 : IntKind.i64.wrap ((k : Int) + 1) = (k : Int) + 1 := IntWalk.i64_in _ (by omega)
   have l64 : (k : Int) < 64 := by omega
   go_wp2_with fail
   go_roundw
   case rel => exact ⟨k + 1, by omega, by go_num, (F.o.drewN n8).set k (by rw [wsL_len]; omega) (wsL_succ p q k (by omega) rfl), (below_drewN HB.o n8).setCell (by simp <;> omega) _⟩
   case measure => simp [intOf]; omega
  case neg =>
   obtain rfl : k = 16 := by omega
   simp only [Int.cast_ofNat_Int]
   go_wp2_with fail
   go_loopw [4] (fun c4 wr => ∃ k : Nat, 16 ≤ k ∧ k ≤ 64 ∧ c4 = .int .i64 k ∧ Hid (Arr .u32 wr w.heap.size (wsL p q k)) ∧ Hid (Below w.heap.size w wr)) (fun c4 _ => 64 - (intOf c4).toNat)
   case atStart => exact ⟨16, by omega, by omega, rfl, F, HB⟩
   case round =>
    clear F HB hk hlt
    obtain ⟨k, hk, hk2, rfl, F, HB⟩ := hrel
    by_cases hlt : k < 64
    case pos =>
     have hd : decide ((k : Int) < 64) = true := by simp; omega
     have k0 : (0 : Int) ≤ (k : Int) := by omega
     obtain ⟨x16, hx16⟩ : ∃ x, ws p q (k - 16) = x := ⟨_, rfl⟩
     obtain ⟨x15, hx15⟩ : ∃ x, ws p q (k - 15) = x := ⟨_, rfl⟩
     obtain ⟨x7, hx7⟩ : ∃ x, ws p q (k - 7) = x := ⟨_, rfl⟩
     obtain ⟨x2, hx2⟩ : ∃ x, ws p q (k - 2) = x := ⟨_, rfl⟩
     have c16 := F.o.c (k - 16) (by rw [wsL_len]; omega)
     have c15 := F.o.c (k - 15) (by rw [wsL_len]; omega)
     have c7 := F.o.c (k - 7) (by rw [wsL_len]; omega)
     have c2 := F.o.c (k - 2) (by rw [wsL_len]; omega)
     have fk := F.o.c k (by rw [wsL_len]; omega)
     rw [wsL_get _ _ _ _ (by omega) (by omega), hx16] at c16
     rw [wsL_get _ _ _ _ (by omega) (by omega), hx15] at c15
     rw [wsL_get _ _ _ _ (by omega) (by omega), hx7] at c7
     rw [wsL_get _ _ _ _ (by omega) (by omega), hx2] at c2
     rw [wsL_get0 _ _ _ _ (by omega)] at fk
     have fz := F.o.f k
     have HX := Lh (And.intro hx16 (And.intro hx15 (And.intro hx7 hx2)))
     clear hx16 hx15 hx7 hx2
     obtain ⟨r7, hr7⟩ : ∃ x, rot x15 7 = x := ⟨_, rfl⟩
     obtain ⟨r18, hr18⟩ : ∃ x, rot x15 18 = x := ⟨_, rfl⟩
     obtain ⟨r17, hr17⟩ : ∃ x, rot x2 17 = x := ⟨_, rfl⟩
     obtain ⟨r19, hr19⟩ : ∃ x, rot x2 19 = x := ⟨_, rfl⟩
     have HR7 := Lh hr7
     have HR18 := Lh hr18
     have HR17 := Lh hr17
     have HR19 := Lh hr19
     clear hr7 hr18 hr17 hr19
     have w16 : IntKind.i64.wrap ((k : Int) - 16) = (k : Int) - 16 := IntWalk.i64_in _ (by omega)
     have w15 : IntKind.i64.wrap ((k : Int) - 15) = (k : Int) - 15 := IntWalk.i64_in _ (by omega)
     have w7 : IntKind.i64.wrap ((k : Int) - 7) = (k : Int) - 7 := IntWalk.i64_in _ (by omega)
     have w2 : IntKind.i64.wrap ((k : Int) - 2) = (k : Int) - 2 := IntWalk.i64_in _ (by omega)
     have e16 : ((k : Int) - 16).toNat = k - 16 := by omega
     have e15 : ((k : Int) - 15).toNat = k - 15 := by omega
     have e7 : ((k : Int) - 7).toNat = k - 7 := by omega
     have e2 : ((k : Int) - 2).toNat = k - 2 := by omega
     have l16 : (0 : Int) ≤ (k : Int) - 16 := by omega
     have l15 : (0 : Int) ≤ (k : Int) - 15 := by omega
     have l7 : (0 : Int) ≤ (k : Int) - 7 := by omega
     have l2 : (0 : Int) ≤ (k : Int) - 2 := by omega
     have bb16 : (k : Int) - 16 < 64 := by omega
     have bb15 : (k : Int) - 15 < 64 := by omega
     have bb7 : (k : Int) - 7 < 64 := by omega
     have bb2 : (k : Int) - 2 < 64 := by omega
     have ukk : (k : Int) < 64 := by omega
     have g16 : (16 : Int) ≤ (k : Int) := by omega
     have g15 : (15 : Int) ≤ (k : Int) := by omega
     have g7 : (7 : Int) ≤ (k : Int) := by omega
     have g2 : (2 : Int) ≤ (k : Int) := by omega
     go_wp2_with fail
     go_quiet (fail)
     go_wp2_with fail
     have hS := And.intro c16 c7
     refine wp_region_stage 29 (fun w' => w'.cell? ⟨w.heap.size, k - 16, none⟩ = some (.int .u32 x16) ∧ w'.cell? ⟨w.heap.size, k - 7, none⟩ = some (.int .u32 x7)) (by kernel_rfl) ?_
     refine tkQ 0 (some 30) (.move (.tmp 4)) 3 ?_
     simp only [sY]
     refine tkQ 1 (some 31) (.move (.tmp 4)) 3 ?_
     simp only [sY]
     refine tkQ 2 (some 32) (.binOp .sub 3 (.tmp 31) (.const (.int .i64 16)) 3) 3 ?_
     simp only [sY]
     refine tkQ 3 (some 33) (.indexAddr 209 (.tmp 2) (.tmp 32)) 0 ?_
     simp only [sY]
     refine tkL (i := 4) (some 34) (.load 108 (.tmp 33)) 108 [13, 18, 27, 28, 29] (v := ?_) hS (fun w' hSw => ?_) ?_
     rotate_left
     · obtain ⟨a16, a7⟩ := hSw
       unfold bareOp; go_simp; try with_reducible rfl
     simp only [sY]
     refine tkQ 5 (some 35) (.move (.tmp 5)) 108 ?_
     simp only [sY]
     refine tkQ 7 (some 37) (.move (.tmp 5)) 108 ?_
     simp only [sY]
     refine tkQ 10 (some 40) (.move (.tmp 5)) 108 ?_
     simp only [sY]
     refine tkQ 11 (some 41) (.binOp .shr 108 (.tmp 40) (.const (υ 3)) 173) 108 ?_
     simp only [sY]
     refine tkQ 14 (some 44) (.move (.tmp 4)) 3 ?_
     simp only [sY]
     refine tkQ 15 (some 45) (.binOp .sub 3 (.tmp 44) (.const (.int .i64 7)) 3) 3 ?_
     simp only [sY]
     refine tkQ 16 (some 46) (.indexAddr 209 (.tmp 2) (.tmp 45)) 0 ?_
     simp only [sY]
     refine tkL (i := 17) (some 47) (.load 108 (.tmp 46)) 108 [18, 27, 28, 29] (v := ?_) hS (fun w' hSw => ?_) ?_
     rotate_left
     · obtain ⟨a16, a7⟩ := hSw
       unfold bareOp; go_simp; try with_reducible rfl
     simp only [sY]
     refine tkQ 19 (some 49) (.move (.tmp 6)) 108 ?_
     simp only [sY]
     refine tkQ 21 (some 51) (.move (.tmp 6)) 108 ?_
     simp only [sY]
     refine tkQ 24 (some 54) (.move (.tmp 6)) 108 ?_
     simp only [sY]
     refine tkQ 25 (some 55) (.binOp .shr 108 (.tmp 54) (.const (υ 10)) 173) 108 ?_
     simp only [sY]
     refine onl (i := 6) (some 36) (.call { callee := .value (.func 166), args := #[.tmp 35, .const (.int .i64 7)], argTypes := #[108, 3] }) 108 (fun K hK => ?_)
     unfold bareOp
     go_wp2_with (go_at_call 166; refine (dright_any (n := 7) _ (by decide) (by decide) HR7.o).mono ?_; rintro e w8 ⟨rfl, n8, rfl⟩)
     refine hK.o _ _ (fun _ => hS) ?_
     clear hK K
     try simp only [sY]
     refine onl (i := 8) (some 38) (.call { callee := .value (.func 166), args := #[.tmp 37, .const (.int .i64 18)], argTypes := #[108, 3] }) 108 (fun K hK => ?_)
     unfold bareOp
     go_wp2_with (go_at_call 166; refine (dright_any (n := 18) _ (by decide) (by decide) HR18.o).mono ?_; rintro e w8 ⟨rfl, n8, rfl⟩)
     refine hK.o _ _ (fun _ => hS) ?_
     clear hK K
     try simp only [sY]
     refine tkQ 9 (some 39) (.binOp .xor 108 (.tmp 36) (.tmp 38) 108) 108 ?_
     simp only [sY]
     refine tkQ 12 (some 42) (.binOp .xor 108 (.tmp 39) (.tmp 41) 108) 108 ?_
     simp only [sY]
     refine tkQ 13 (some 43) (.binOp .add 108 (.tmp 34) (.tmp 42) 108) 108 ?_
     simp only [sY]
     refine tkQ 18 (some 48) (.binOp .add 108 (.tmp 43) (.tmp 47) 108) 108 ?_
     simp only [sY]
     refine onl (i := 20) (some 50) (.call { callee := .value (.func 166), args := #[.tmp 49, .const (.int .i64 17)], argTypes := #[108, 3] }) 108 (fun K hK => ?_)
     unfold bareOp
     go_wp2_with (go_at_call 166; refine (dright_any (n := 17) _ (by decide) (by decide) HR17.o).mono ?_; rintro e w8 ⟨rfl, n8, rfl⟩)
     refine hK.o _ _ (fun _ => hS) ?_
     clear hK K
     try simp only [sY]
     refine onl (i := 22) (some 52) (.call { callee := .value (.func 166), args := #[.tmp 51, .const (.int .i64 19)], argTypes := #[108, 3] }) 108 (fun K hK => ?_)
     unfold bareOp
     go_wp2_with (go_at_call 166; refine (dright_any (n := 19) _ (by decide) (by decide) HR19.o).mono ?_; rintro e w8 ⟨rfl, n8, rfl⟩)
     refine hK.o _ _ (fun _ => hS) ?_
     clear hK K
     try simp only [sY]
     refine tkQ 23 (some 53) (.binOp .xor 108 (.tmp 50) (.tmp 52) 108) 108 ?_
     simp only [sY]
     refine tkQ 26 (some 56) (.binOp .xor 108 (.tmp 53) (.tmp 55) 108) 108 ?_
     simp only [sY]
     refine tkQ 27 (some 57) (.binOp .add 108 (.tmp 48) (.tmp 56) 108) 108 ?_
     simp only [sY]
     refine tkQ 28 (some 58) (.indexAddr 209 (.tmp 2) (.tmp 30)) 0 ?_
     simp only [sY]
     refine onl (i := 29) none (.store 108 (.tmp 58) (.tmp 57)) 0 (fun K hK => ?_)
     unfold bareOp
     go_wp2_with fail
     refine hK.o _ _ lt8 ?_
     clear hK K
     try simp only [sY]
     refine wpAnyB_done (by kernel_rfl) ?_ _
     have hw1 : IntKind.i64.wrap ((k : Int) + 1) = (k : Int) + 1 := IntWalk.i64_in _ (by omega)
     go_wp2_with fail
     go_roundw
     case rel =>
      refine ⟨k + 1, by omega, by omega, by go_num, Arr.set (F.o.drewN _) k (by rw [wsL_len]; omega) (wsL_succ p q k hlt ?_), Below.setCell (below_drewN HB.o _) (by simp <;> omega) _⟩
      rw [ws_hi _ _ _ (by omega), HX.o.1, HX.o.2.1, HX.o.2.2.1, HX.o.2.2.2, sig0, sig1, HR7.o, HR18.o, HR17.o, HR19.o]
      unfold M; omega
     case measure => simp [intOf]; omega
    case neg =>
     obtain rfl : k = 64 := by omega
     go_wp2_with (first
      | (refine wpList_loadArr rfl 209 _ rfl .u32 w.heap.size 0 (wsL p q 64) 64 108 rfl Tryz.underlying209 (by rw [wsL_len]; kernel_rfl) (fun i hi => by rw [Nat.zero_add]; exact F.o.c i hi) ?_)
      | (refine wpList_storeArr rfl 209 _ _ rfl rfl .u32 w.heap.size 0 (wsL p q 64) rfl rfl (by rw [wsL_len]; kernel_rfl) (fun i hi => by rw [Nat.zero_add, F.o.c i hi]; rfl) (fun i hi => F.o.f _) ?_; intro w9 hL; have HL := Lh hL; clear hL))
     refine bodyPost_ret (res_arr .u32 w.heap.size 0 (wsL p q 64) 64 108 rfl Tryz.underlying209 (by rw [wsL_len]; kernel_rfl) _ rfl HL.o.row) rfl ?_
     exact ⟨rfl, HB.o.trans (HL.o.below _ (Nat.le_refl _))⟩
end Go.Proofs.YtlbldpkgnonbpaaGreatDoor
/- Arrays at single operations: laid, boxed, loaded, stored; what each leaves of the world. -/
namespace Go.Proofs.YtlbldpkgnonbpaaGreatDoor
open Go Go.RowKit Sha
structure Fresh (k : IntKind) (w w' : World) (xs : List Int) : Prop where
 arr : Arr k w' w.heap.size xs
 below : ∀ n, n ≤ w.heap.size → Below n w w'
 size : w'.heap.size = w.heap.size + 1
theorem Fresh.of (k : IntKind) (w : World) (xs : List Int) (t : TypeId) : Fresh k w (w.alloc (.cells (valV k xs) t)) xs :=
 ⟨Arr.new k w xs t _ rfl, fun n hn => (Below.refl n w).alloc hn _, by simp⟩
theorem Arr.laid {k l : IntKind} {w w' : World} {b c q : Nat} {xs ys : List Int} (h : Arr k w c xs) (hL : Laid l w w' b q ys) (hn : c ≠ b) : Arr k w' c xs :=
 ⟨fun i hi => (hL.cell c i hn).trans (h.c i hi), fun i => (hL.frozen _).trans (h.f i), by rw [hL.size]; exact h.lt⟩
theorem Arr.whole {k : IntKind} {w w' : World} {b : Nat} {xs ys : List Int} (h : Arr k w b xs) (hL : Laid k w w' b 0 ys) : Arr k w' b ys :=
 ⟨fun i hi => by rw [← hL.row i hi, Nat.zero_add], fun i => (hL.frozen _).trans (h.f i), by rw [hL.size]; exact h.lt⟩
section
variable {P : Program} {w : World} {o : Oper} {a : Act} {K : Act → World → Prop} {Q : Exit → Act → World → Prop}
theorem wp_allocArr (t : TypeId) (k : IntKind) (n : Nat) (ho : o.op = .alloc t) (hz : (P.info? t).map (fun i => (i.zero, i.size)) = some (some (.agg (valV k (List.replicate n 0))), n))
 (h : ∀ w', Fresh k w w' (List.replicate n 0) → K (a.put o.dst (.pointer (some ⟨w.heap.size, 0, none⟩))) w') : Oper.wp P o a w K Q := by
 have h0 := (zero_of_info hz).1 w
 unfold Oper.wp
 simp [execOp, ho, Instr.alloc, h0, newVar, newRow, Value.cells, Result.andThen]
 exact h _ (Fresh.of k w _ t)
theorem wp_boxArr (t : TypeId) (k : IntKind) (x : Operand) (xs : List Int) (ho : o.op = .box t x) (hx : a.eval x = .agg (valV k xs))
 (h : ∀ w', Fresh k w w' xs → K (a.put o.dst (.pointer (some ⟨w.heap.size, 0, none⟩))) w') : Oper.wp P o a w K Q := by
 unfold Oper.wp
 simp [execOp, ho, hx, Instr.box, newVar, newRow, Value.cells, Result.andThen]
 exact h _ (Fresh.of k w _ t)
theorem wp_loadArr (t : TypeId) (k : IntKind) (p : Operand) (b : Nat) (xs : List Int) (n : Nat) (e : TypeId) (ho : o.op = .load t p) (hp : a.eval p = .pointer (some ⟨b, 0, none⟩)) (hu : P.underlying t = some (.array n e))
 (hi : (P.info? t).map (·.size) = some xs.length) (hA : Arr k w b xs) (h : K (a.put o.dst (.agg (valV k xs))) w) : Oper.wp P o a w K Q := by
 have hrun := run_loadVarArr (P := P) (w := w) t k b 0 xs n e hu hi (fun i hi => by rw [Nat.zero_add]; exact hA.c i hi)
 unfold Oper.wp
 simp [execOp, ho, hp, Instr.loadAt, Instr.sureAddr, hrun, Result.andThen]
 exact h
theorem wp_storeArr (t : TypeId) (k : IntKind) (p v : Operand) (b : Nat) (xs ys : List Int) (ho : o.op = .store t p v) (hd : o.dst = none) (hp : a.eval p = .pointer (some ⟨b, 0, none⟩)) (hv : a.eval v = .agg (valV k xs))
 (hi : (P.info? t).map (·.size) = some xs.length) (hA : Arr k w b ys) (hl : xs.length = ys.length) (h : ∀ w', Laid k w w' b 0 xs → K a w') : Oper.wp P o a w K Q := by
 have hc : ∀ i, i < xs.length → (w.cell? ⟨b, 0 + i, none⟩).isSome = true := fun i hi => by rw [Nat.zero_add, hA.c i (by omega)]; rfl
 have hrun := run_storeVarArr (P := P) (w := w) t k b 0 xs hi hc (fun i _ => hA.f _)
 unfold Oper.wp
 simp [execOp, ho, hp, hv, Instr.storeAt, Instr.sureAddr, hrun, Result.andThen]
 show K (a.put o.dst undef) _
 rw [hd]
 exact h _ (Laid.of k b 0 xs hc)
variable {ops : Array Oper} {rest : List Oper}
theorem wpL_allocArr (hgd : o.guard = none) (t : TypeId) (k : IntKind) (n : Nat) (ho : o.op = .alloc t) (hz : (P.info? t).map (fun i => (i.zero, i.size)) = some (some (.agg (valV k (List.replicate n 0))), n))
 (h : ∀ w', Fresh k w w' (List.replicate n 0) → wpList P ops Q rest (a.put o.dst (.pointer (some ⟨w.heap.size, 0, none⟩))) w') : wpList P ops Q (o :: rest) a w :=
 wpList_plain hgd fun _ hK => wp_allocArr t k n ho hz fun w' hw => hK _ _ (h w' hw)
theorem wpL_boxArr (hgd : o.guard = none) (t : TypeId) (k : IntKind) (x : Operand) (xs : List Int) (ho : o.op = .box t x) (hx : a.eval x = .agg (valV k xs))
 (h : ∀ w', Fresh k w w' xs → wpList P ops Q rest (a.put o.dst (.pointer (some ⟨w.heap.size, 0, none⟩))) w') : wpList P ops Q (o :: rest) a w :=
 wpList_plain hgd fun _ hK => wp_boxArr t k x xs ho hx fun w' hw => hK _ _ (h w' hw)
theorem wpL_loadArr (hgd : o.guard = none) (t : TypeId) (k : IntKind) (p : Operand) (b : Nat) (xs : List Int) (n : Nat) (e : TypeId) (ho : o.op = .load t p) (hp : a.eval p = .pointer (some ⟨b, 0, none⟩)) (hu : P.underlying t = some (.array n e))
 (hi : (P.info? t).map (·.size) = some xs.length) (hA : Arr k w b xs) (h : wpList P ops Q rest (a.put o.dst (.agg (valV k xs))) w) : wpList P ops Q (o :: rest) a w :=
 wpList_plain hgd fun _ hK => wp_loadArr t k p b xs n e ho hp hu hi hA (hK _ _ h)
theorem wpL_storeArr (hgd : o.guard = none) (t : TypeId) (k : IntKind) (p v : Operand) (b : Nat) (xs ys : List Int) (ho : o.op = .store t p v) (hd : o.dst = none) (hp : a.eval p = .pointer (some ⟨b, 0, none⟩)) (hv : a.eval v = .agg (valV k xs))
 (hi : (P.info? t).map (·.size) = some xs.length) (hA : Arr k w b ys) (hl : xs.length = ys.length) (h : ∀ w', Laid k w w' b 0 xs → wpList P ops Q rest a w') : wpList P ops Q (o :: rest) a w :=
 wpList_plain hgd fun _ hK => wp_storeArr t k p v b xs ys ho hd hp hv hi hA hl fun w' hw => hK _ _ (h w' hw)
end
end Go.Proofs.YtlbldpkgnonbpaaGreatDoor
/- digest.step: a block compressed into a state. -/
namespace Go.Proofs.YtlbldpkgnonbpaaGreatDoor
open Go Go.RowKit Sha
structure Tabs (w : World) : Prop where
 k : ∀ t, t < 64 → w.cell? ⟨1, t, none⟩ = some (.int .u32 (kAt t))
 f : ∀ i, i < 8 → w.cell? ⟨0, i, none⟩ = some (.int .u32 (firstS.l.getD i 0))
 klt : 1 < w.heap.size
 flt : 0 < w.heap.size
theorem Tabs.below {w w' : World} (h : Tabs w) (hb : Below w.heap.size w w') : Tabs w' :=
 ⟨fun t ht => (hb.cell (p := ⟨1, t, none⟩) h.klt).trans (h.k t ht), fun t ht => (hb.cell (p := ⟨0, t, none⟩) h.flt).trans (h.f t ht), Nat.lt_of_lt_of_le h.klt hb.size, Nat.lt_of_lt_of_le h.flt hb.size⟩
theorem exec_loadArr {P : Program} {w : World} {ρ : Operand → Value} {d : Option Tmp} {t ty : TypeId} {p : Operand} {k : IntKind} {b : Nat} {xs : List Int} {n : Nat} {e : TypeId} (hn : n = xs.length) (hp : ρ p = .pointer (some ⟨b, 0, none⟩)) (hu : P.underlying t = some (.array n e))
 (hi : (P.info? t).map (·.size) = some n) (hc : ∀ i, i < xs.length → w.cell? ⟨b, i, none⟩ = some (.int k (xs.getD i 0))) : (execOp ρ (bareOp d (.load t p) ty)).run P w = .ok (.value (.agg (valV k xs))) w := by
 have hrun := run_loadVarArr (P := P) (w := w) t k b 0 xs n e hu (by rw [← hn]; exact hi) (fun i hi => by rw [Nat.zero_add]; exact hc i hi)
 unfold bareOp
 simp [execOp, hp, Instr.loadAt, Instr.sureAddr, hrun, Result.andThen]
theorem wp_copyArr {P : Program} {w : World} {o : Oper} {a : Act} {K : Act → World → Prop} {Q : Exit → Act → World → Prop} (d s : Operand) (dT sT : TypeId)
 (ho : o.op = .call { callee := .builtin .copy, args := #[d, s], argTypes := #[dT, sT] }) (elem : TypeId) (hu : P.underlying dT = some (.slice elem)) (hsz : (P.info? elem).map (·.size) = some 1)
 (k : IntKind) (b c q q' dLen dCap sLen sCap : Nat) (hd : a.eval d = .slice (some ⟨b, q, none⟩) dLen dCap) (hs : a.eval s = .slice (some ⟨c, q', none⟩) sLen sCap)
 (xs : List Int) (hn : xs.length = Nat.min sLen dLen) (hsrc : ∀ i, i < xs.length → w.cell? ⟨c, q' + i, none⟩ = some (.int k (xs.getD i 0)))
 (hc : ∀ i, i < xs.length → (w.cell? ⟨b, q + i, none⟩).isSome = true) (hf : ∀ i, i < xs.length → w.frozen? ⟨b, q + i, none⟩ = false)
 (h : ∀ w', Laid k w w' b q xs → K (a.put o.dst (goInt xs.length)) w') : Oper.wp P o a w K Q := by
 have hrun := run_copy_cells (P := P) w dT sT o.type elem b q dLen dCap ⟨c, q', none⟩ sLen sCap (xs.map (Value.int k)) hu hsz (by simpa using hn) (cellsAt k hsrc) (by simpa using hc) (by simpa using hf) (valV_one k xs)
 unfold Oper.wp
 simp [execOp, ho, resolve, invoke, builtin, hd, hs, hrun, Result.andThen]
 exact h _ (Laid.of k b q xs hc)
structure StepIn (w wx : World) (Bs Br Bw Bv : Nat) (s v : S8) (p : List Int) (q : Nat) : Prop where
 fs : Arr .u32 wx Bs s.l
 fr : Arr .u32 wx Br (List.replicate 8 0)
 fw : Arr .u32 wx Bw (wsAll p q)
 fv : Arr .u32 wx Bv v.l
 vs : Bv ≠ Bs
 vr : Bv ≠ Br
 vw : Bv ≠ Bw
 sr : Bs ≠ Br
 vl : w.heap.size ≤ Bv
 rl : w.heap.size ≤ Br
 bel : Below w.heap.size w wx
theorem StepIn.drewN {w wx : World} {Bs Br Bw Bv : Nat} {s v : S8} {p : List Int} {q : Nat} (h : StepIn w wx Bs Br Bw Bv s v p q) (n : Nat) : StepIn w (wx.drewN n) Bs Br Bw Bv s v p q :=
 ⟨h.fs.drewN n, h.fr.drewN n, h.fw.drewN n, h.fv.drewN n, h.vs, h.vr, h.vw, h.sr, h.vl, h.rl, below_drewN h.bel n⟩
theorem StepIn.drew {w wx : World} {Bs Br Bw Bv : Nat} {s v : S8} {p : List Int} {q : Nat} (h : StepIn w wx Bs Br Bw Bv s v p q) : StepIn w wx.drew Bs Br Bw Bv s v p q :=
 ⟨h.fs.drew, h.fr.drew, h.fw.drew, h.fv.drew, h.vs, h.vr, h.vw, h.sr, h.vl, h.rl, h.bel.drew⟩
theorem StepIn.laid {w wx wy : World} {Bs Br Bw Bv : Nat} {s v v' : S8} {p : List Int} {q o : Nat} {ys : List Int} (h : StepIn w wx Bs Br Bw Bv s v p q) (hL : Laid .u32 wx wy Bv o ys) (hv : Arr .u32 wy Bv v'.l) : StepIn w wy Bs Br Bw Bv s v' p q :=
 ⟨h.fs.laid hL (Ne.symm h.vs), h.fr.laid hL (Ne.symm h.vr), h.fw.laid hL (Ne.symm h.vw), hv, h.vs, h.vr, h.vw, h.sr, h.vl, h.rl, h.bel.trans (hL.below _ h.vl)⟩
theorem StepIn.set {w wx : World} {Bs Br Bw Bv : Nat} {s v v' : S8} {p : List Int} {q o : Nat} {x : Int} (h : StepIn w wx Bs Br Bw Bv s v p q) (ho : o < 8) (hv : v.l.set o x = v'.l) : StepIn w (wx.setCell ⟨Bv, o, none⟩ (.int .u32 x)) Bs Br Bw Bv s v' p q :=
 ⟨h.fs.far h.vs _, h.fr.far h.vr _, h.fw.far h.vw _, h.fv.set o ho hv, h.vs, h.vr, h.vw, h.sr, h.vl, h.rl, h.bel.setCell h.vl _⟩
theorem Arr.shift {w w' : World} {B : Nat} {a b c d e f g h : Int} (hA : Arr .u32 w B [a, b, c, d, e, f, g, h]) (hL : Laid .u32 w w' B 1 [a, b, c, d, e, f, g]) : Arr .u32 w' B [a, a, b, c, d, e, f, g] := by
 refine ⟨fun i hi => ?_, fun i => (hL.frozen _).trans (hA.f i), by rw [hL.size]; exact hA.lt⟩
 cases i with
 | zero => exact (hL.beside 0 (.inl (by decide))).trans (hA.c 0 (by simp))
 | succ j =>
  have hj : j < 7 := by simp at hi; omega
  have := hL.row j hj
  rw [Nat.add_comm 1 j] at this
  rw [this]
  rfl
theorem take7 {a b c d e f g h : Int} {i : Nat} (hi : i < 7) : [a, b, c, d, e, f, g, h].getD i 0 = [a, b, c, d, e, f, g].getD i 0 := by
 have : i = 0 ∨ i = 1 ∨ i = 2 ∨ i = 3 ∨ i = 4 ∨ i = 5 ∨ i = 6 := by omega
 rcases this with rfl | rfl | rfl | rfl | rfl | rfl | rfl <;> rfl
theorem StepIn.round {w wx : World} {Bs Br Bw Bv : Nat} {s : S8} {p : List Int} {q : Nat} {a b c d e f g x y X Y : Int} (h : StepIn w wx Bs Br Bw Bv s ⟨a, a, b, c, d, e, f, g⟩ p q) (hx : X = M (d + x)) (hy : Y = M (x + y)) :
 StepIn w ((wx.setCell ⟨Bv, 4, none⟩ (.int .u32 X)).setCell ⟨Bv, 0, none⟩ (.int .u32 Y)) Bs Br Bw Bv s ⟨M (x + y), a, b, c, M (d + x), e, f, g⟩ p q := by
 subst hx hy
 exact (h.set (v' := ⟨a, a, b, c, M (d + x), e, f, g⟩) (by decide) rfl).set (by decide) rfl
def mixL (s v : S8) (n : Nat) : List Int := (List.range 8).map fun i => if i < n then M (s.l.getD i 0 + v.l.getD i 0) else s.l.getD i 0
theorem mixL_len (s v : S8) (n : Nat) : (mixL s v n).length = 8 := by simp [mixL]
theorem mixL_all (s v : S8) : mixL s v 8 = (add8 s v).l := rfl
theorem mixL_get (s v : S8) (n : Nat) (h : n < 8) : (mixL s v n).getD n 0 = s.l.getD n 0 := by
 simp [mixL, List.getD_eq_getElem?_getD, h]
theorem mixL_succ (s v : S8) (n : Nat) (hn : n < 8) {x : Int} (hx : x = M (s.l.getD n 0 + v.l.getD n 0)) : (mixL s v n).set n x = mixL s v (n + 1) := by
 subst hx
 apply List.ext_getElem
 · simp [mixL]
 · intro i h1 h2
   simp only [List.getElem_set, mixL, List.getElem_map, List.getElem_range]
   by_cases e : n = i
   · subst e; simp
   · have : (i < n + 1) = (i < n) := propext (by omega)
     simp [e, this]
structure AddIn (w wx : World) (Bs Br Bv : Nat) (xs : List Int) (v : S8) : Prop where
 fs : Arr .u32 wx Bs xs
 fr : Arr .u32 wx Br (List.replicate 8 0)
 fv : Arr .u32 wx Bv v.l
 vs : Bv ≠ Bs
 sr : Bs ≠ Br
 sl : w.heap.size ≤ Bs
 rl : w.heap.size ≤ Br
 bel : Below w.heap.size w wx
theorem AddIn.drew {w wx : World} {Bs Br Bv : Nat} {xs : List Int} {v : S8} (h : AddIn w wx Bs Br Bv xs v) : AddIn w wx.drew Bs Br Bv xs v :=
 ⟨h.fs.drew, h.fr.drew, h.fv.drew, h.vs, h.sr, h.sl, h.rl, h.bel.drew⟩
theorem AddIn.set {w wx : World} {Bs Br Bv : Nat} {xs ys : List Int} {v : S8} {o : Nat} {x : Int} (h : AddIn w wx Bs Br Bv xs v) (ho : o < xs.length) (hv : xs.set o x = ys) : AddIn w (wx.setCell ⟨Bs, o, none⟩ (.int .u32 x)) Bs Br Bv ys v :=
 ⟨h.fs.set o ho hv, h.fr.far h.sr _, h.fv.far (Ne.symm h.vs) _, h.vs, h.sr, h.sl, h.rl, h.bel.setCell h.sl _⟩
set_option maxHeartbeats 8000000 in
theorem dstep_any {o m sb q : Nat} {p : List Int} {s : S8} (w : World) (hT : Tabs w) (h : Blk w sb o p q) (hm : 64 ≤ m) :
 Calls Tryz.prog 155 #[.agg (valV .u32 s.l), .slice (some ⟨sb, o, none⟩) 64 m] w fun e w' => e = .returned (.agg (valV .u32 (stepS p q s).l)) ∧ Below w.heap.size w w' := by
 have HT := Lh hT
 have HS := Lh h
 have hsl := h.lt
 clear h hT
 go_enter Tryz.func155, Tryz.ntmps155
 go_wp2_with (first
  | (refine wpL_boxArr rfl 191 .u32 _ s.l rfl rfl ?_; intro w1 h1; have F_s := Lh h1.arr; have HBW := Lh (h1.below _ (Nat.le_refl _)); have hle := HBW.o.size; clear h1; simp only [sY])
  | (refine wpL_allocArr rfl 191 .u32 8 rfl (by kernel_rfl) ?_; intro w2 h2; have ne_s_r := Nat.ne_of_lt F_s.o.lt; replace F_s := Lh (F_s.o.keep (h2.below _ (Nat.le_refl _))); have F_r := Lh h2.arr; replace HBW := Lh (HBW.o.trans (h2.below _ HBW.o.size)); clear h2; simp only [sY]))
 go_cut [5, 6] from 13 to 15 (fun c5 c6 wx => ∃ Bw Bv : Nat, c5 = .pointer (some ⟨Bw, 0, none⟩) ∧ c6 = .pointer (some ⟨Bv, 0, none⟩) ∧ Hid (StepIn w wx w.heap.size w1.heap.size Bw Bv s s p q))
 case first =>
  replace F_s := Lh F_s.o.drew
  replace F_r := Lh F_r.o.drew
  replace HBW := Lh HBW.o.drew
  refine wp_region_stage 6 (fun w' => ∀ i, i < s.l.length → w'.cell? ⟨w.heap.size, i, none⟩ = some (.int .u32 (s.l.getD i 0))) (by kernel_rfl) ?_
  refine tkP (i := 0) (some 13) (.move (.tmp 1)) 80 (fun _ => F_s.o.c) ?_
  simp only [sY]
  refine wpAnyB_take (i := 2) (some 15) (.load 191 (.tmp 2)) 191 (v := .agg (valV .u32 s.l)) ⟨_, rfl, rfl, rfl, rfl, rfl⟩ (by kernel_rfl) (by kernel_rfl) (by kernel_rfl) [6] (by kernel_rfl) (fun _ _ _ h => h) F_s.o.c (fun w' hSw => exec_loadArr rfl rfl Tryz.underlying191 (by kernel_rfl) hSw) ?_
  try simp only [sY]
  refine wpAnyB_three (i := 1) (j := 3) (k := 4) (some 14) (Op.call { callee := Callee.value (Operand.func 165), args := #[Operand.tmp 13], argTypes := #[80] }) 209 (some 5) (Op.alloc 209) 0 (some 6) (Op.alloc 191) 0 ⟨_, rfl, rfl, rfl, rfl, rfl⟩ ⟨_, rfl, rfl, rfl, rfl, rfl⟩ ⟨_, rfl, rfl, rfl, rfl, rfl⟩ (by kernel_rfl) (fun K hK => ?_) (fun K hK => ?_) (fun K hK => ?_)
  · skip
    unfold bareOp
    go_wp2_with (go_at_call 165; refine (dspread_any (q := q) (p := p) _ (HS.o.below HBW.o hsl) hm).mono ?_; rintro e w21 ⟨rfl, hb21⟩)
    replace F_s := Lh (F_s.o.keep hb21)
    replace F_r := Lh (F_r.o.keep hb21)
    replace HBW := Kt HBW hb21
    clear hb21
    refine hK.o _ _ (fun _ => F_s.o.c) ?_
    clear hK K
    try simp only [sY]
    refine wpAnyB_two (i := 3) (j := 4) (some 5) (Op.alloc 209) 0 (some 6) (Op.alloc 191) 0 ⟨_, rfl, rfl, rfl, rfl, rfl⟩ ⟨_, rfl, rfl, rfl, rfl, rfl⟩ (by kernel_rfl) (fun K hK => ?_) (fun K hK => ?_)
    · skip
      unfold bareOp
      refine wp_allocArr 209 .u32 64 rfl (by kernel_rfl) ?_
      intro w22 h22
      have H22 := Lh h22
      clear h22
      have ne_s_w := Nat.ne_of_lt F_s.o.lt
      replace F_s := Lh (F_s.o.keep (H22.o.below _ (Nat.le_refl _)))
      have ne_r_w := Nat.ne_of_lt F_r.o.lt
      replace F_r := Lh (F_r.o.keep (H22.o.below _ (Nat.le_refl _)))
      have le_w := HBW.o.size
      have F_w := Lh H22.o.arr
      replace HBW := Lh (HBW.o.trans (H22.o.below _ HBW.o.size))
      clear H22
      refine hK.o _ _ (fun _ => F_s.o.c) ?_
      clear hK K
      try simp only [sY]
      refine onl (i := 4) (some 6) (.alloc 191) 0 (fun K hK => ?_)
      unfold bareOp
      refine wp_allocArr 191 .u32 8 rfl (by kernel_rfl) ?_
      intro w23 h23
      have H23 := Lh h23
      clear h23
      have ne_s_v := Nat.ne_of_lt F_s.o.lt
      replace F_s := Lh (F_s.o.keep (H23.o.below _ (Nat.le_refl _)))
      have ne_r_v := Nat.ne_of_lt F_r.o.lt
      replace F_r := Lh (F_r.o.keep (H23.o.below _ (Nat.le_refl _)))
      have ne_w_v := Nat.ne_of_lt F_w.o.lt
      replace F_w := Lh (F_w.o.keep (H23.o.below _ (Nat.le_refl _)))
      have le_v := HBW.o.size
      have F_v := Lh H23.o.arr
      replace HBW := Lh (HBW.o.trans (H23.o.below _ HBW.o.size))
      clear H23
      refine hK.o _ _ (fun _ => F_s.o.c) ?_
      clear hK K
      try simp only [sY]
      refine onl (i := 5) none (.store 209 (.tmp 5) (.tmp 14)) 0 (fun K hK => ?_)
      unfold bareOp
      refine wp_storeArr 209 .u32 _ _ _ (wsAll p q) _ rfl rfl rfl rfl (by rw [wsAll_len]; kernel_rfl) F_w.o (by rw [wsAll_len]; rfl) ?_
      intro w24 h24
      have H24 := Lh h24
      clear h24
      replace F_s := Lh (F_s.o.laid H24.o ne_s_w)
      replace F_r := Lh (F_r.o.laid H24.o ne_r_w)
      replace F_v := Lh (F_v.o.laid H24.o (Ne.symm ne_w_v))
      replace F_w := Lh (F_w.o.whole H24.o)
      replace HBW := Lh (HBW.o.trans (H24.o.below _ le_w))
      clear H24
      refine hK.o _ _ (fun _ => F_s.o.c) ?_
      clear hK K
      try simp only [sY]
      refine onl (i := 6) none (.store 191 (.tmp 6) (.tmp 15)) 0 (fun K hK => ?_)
      unfold bareOp
      refine wp_storeArr 191 .u32 _ _ _ s.l _ rfl rfl rfl rfl (by kernel_rfl) F_v.o (by rfl) ?_
      intro w25 h25
      have H25 := Lh h25
      clear h25
      replace F_s := Lh (F_s.o.laid H25.o ne_s_v)
      replace F_r := Lh (F_r.o.laid H25.o ne_r_v)
      replace F_w := Lh (F_w.o.laid H25.o ne_w_v)
      replace F_v := Lh (F_v.o.whole H25.o)
      replace HBW := Lh (HBW.o.trans (H25.o.below _ le_v))
      clear H25
      refine hK.o _ _ lt8 ?_
      clear hK K
      try simp only [sY]
      refine wpAnyB_done (by kernel_rfl) ?_ _
      go_wp2_with fail
      go_meet
      case rel => exact ⟨_, _, rfl, rfl, ⟨F_s.o, F_r.o, F_w.o, F_v.o, Ne.symm ne_s_v, Ne.symm ne_r_v, Ne.symm ne_w_v, ne_s_r, le_v, hle, HBW.o⟩⟩
    · skip
      unfold bareOp
      refine wp_allocArr 191 .u32 8 rfl (by kernel_rfl) ?_
      intro w22 h22
      have H22 := Lh h22
      clear h22
      have ne_s_v := Nat.ne_of_lt F_s.o.lt
      replace F_s := Lh (F_s.o.keep (H22.o.below _ (Nat.le_refl _)))
      have ne_r_v := Nat.ne_of_lt F_r.o.lt
      replace F_r := Lh (F_r.o.keep (H22.o.below _ (Nat.le_refl _)))
      have le_v := HBW.o.size
      have F_v := Lh H22.o.arr
      replace HBW := Lh (HBW.o.trans (H22.o.below _ HBW.o.size))
      clear H22
      refine hK.o _ _ (fun _ => F_s.o.c) ?_
      clear hK K
      try simp only [sY]
      refine onl (i := 3) (some 5) (.alloc 209) 0 (fun K hK => ?_)
      unfold bareOp
      refine wp_allocArr 209 .u32 64 rfl (by kernel_rfl) ?_
      intro w23 h23
      have H23 := Lh h23
      clear h23
      have ne_s_w := Nat.ne_of_lt F_s.o.lt
      replace F_s := Lh (F_s.o.keep (H23.o.below _ (Nat.le_refl _)))
      have ne_r_w := Nat.ne_of_lt F_r.o.lt
      replace F_r := Lh (F_r.o.keep (H23.o.below _ (Nat.le_refl _)))
      have ne_v_w := Nat.ne_of_lt F_v.o.lt
      replace F_v := Lh (F_v.o.keep (H23.o.below _ (Nat.le_refl _)))
      have le_w := HBW.o.size
      have F_w := Lh H23.o.arr
      replace HBW := Lh (HBW.o.trans (H23.o.below _ HBW.o.size))
      clear H23
      refine hK.o _ _ (fun _ => F_s.o.c) ?_
      clear hK K
      try simp only [sY]
      refine onl (i := 5) none (.store 209 (.tmp 5) (.tmp 14)) 0 (fun K hK => ?_)
      unfold bareOp
      refine wp_storeArr 209 .u32 _ _ _ (wsAll p q) _ rfl rfl rfl rfl (by rw [wsAll_len]; kernel_rfl) F_w.o (by rw [wsAll_len]; rfl) ?_
      intro w24 h24
      have H24 := Lh h24
      clear h24
      replace F_s := Lh (F_s.o.laid H24.o ne_s_w)
      replace F_r := Lh (F_r.o.laid H24.o ne_r_w)
      replace F_v := Lh (F_v.o.laid H24.o ne_v_w)
      replace F_w := Lh (F_w.o.whole H24.o)
      replace HBW := Lh (HBW.o.trans (H24.o.below _ le_w))
      clear H24
      refine hK.o _ _ (fun _ => F_s.o.c) ?_
      clear hK K
      try simp only [sY]
      refine onl (i := 6) none (.store 191 (.tmp 6) (.tmp 15)) 0 (fun K hK => ?_)
      unfold bareOp
      refine wp_storeArr 191 .u32 _ _ _ s.l _ rfl rfl rfl rfl (by kernel_rfl) F_v.o (by rfl) ?_
      intro w25 h25
      have H25 := Lh h25
      clear h25
      replace F_s := Lh (F_s.o.laid H25.o ne_s_v)
      replace F_r := Lh (F_r.o.laid H25.o ne_r_v)
      replace F_w := Lh (F_w.o.laid H25.o (Ne.symm ne_v_w))
      replace F_v := Lh (F_v.o.whole H25.o)
      replace HBW := Lh (HBW.o.trans (H25.o.below _ le_v))
      clear H25
      refine hK.o _ _ lt8 ?_
      clear hK K
      try simp only [sY]
      refine wpAnyB_done (by kernel_rfl) ?_ _
      go_wp2_with fail
      go_meet
      case rel => exact ⟨_, _, rfl, rfl, ⟨F_s.o, F_r.o, F_w.o, F_v.o, Ne.symm ne_s_v, Ne.symm ne_r_v, ne_v_w, ne_s_r, le_v, hle, HBW.o⟩⟩
  · skip
    unfold bareOp
    refine wp_allocArr 209 .u32 64 rfl (by kernel_rfl) ?_
    intro w21 h21
    have H21 := Lh h21
    clear h21
    have ne_s_w := Nat.ne_of_lt F_s.o.lt
    replace F_s := Lh (F_s.o.keep (H21.o.below _ (Nat.le_refl _)))
    have ne_r_w := Nat.ne_of_lt F_r.o.lt
    replace F_r := Lh (F_r.o.keep (H21.o.below _ (Nat.le_refl _)))
    have le_w := HBW.o.size
    have F_w := Lh H21.o.arr
    replace HBW := Lh (HBW.o.trans (H21.o.below _ HBW.o.size))
    clear H21
    refine hK.o _ _ (fun _ => F_s.o.c) ?_
    clear hK K
    try simp only [sY]
    refine wpAnyB_two (i := 1) (j := 4) (some 14) (Op.call { callee := Callee.value (Operand.func 165), args := #[Operand.tmp 13], argTypes := #[80] }) 209 (some 6) (Op.alloc 191) 0 ⟨_, rfl, rfl, rfl, rfl, rfl⟩ ⟨_, rfl, rfl, rfl, rfl, rfl⟩ (by kernel_rfl) (fun K hK => ?_) (fun K hK => ?_)
    · skip
      unfold bareOp
      go_wp2_with (go_at_call 165; refine (dspread_any (q := q) (p := p) _ (HS.o.below HBW.o hsl) hm).mono ?_; rintro e w22 ⟨rfl, hb22⟩)
      replace F_s := Lh (F_s.o.keep hb22)
      replace F_r := Lh (F_r.o.keep hb22)
      replace F_w := Lh (F_w.o.keep hb22)
      replace HBW := Kt HBW hb22
      clear hb22
      refine hK.o _ _ (fun _ => F_s.o.c) ?_
      clear hK K
      try simp only [sY]
      refine onl (i := 4) (some 6) (.alloc 191) 0 (fun K hK => ?_)
      unfold bareOp
      refine wp_allocArr 191 .u32 8 rfl (by kernel_rfl) ?_
      intro w23 h23
      have H23 := Lh h23
      clear h23
      have ne_s_v := Nat.ne_of_lt F_s.o.lt
      replace F_s := Lh (F_s.o.keep (H23.o.below _ (Nat.le_refl _)))
      have ne_r_v := Nat.ne_of_lt F_r.o.lt
      replace F_r := Lh (F_r.o.keep (H23.o.below _ (Nat.le_refl _)))
      have ne_w_v := Nat.ne_of_lt F_w.o.lt
      replace F_w := Lh (F_w.o.keep (H23.o.below _ (Nat.le_refl _)))
      have le_v := HBW.o.size
      have F_v := Lh H23.o.arr
      replace HBW := Lh (HBW.o.trans (H23.o.below _ HBW.o.size))
      clear H23
      refine hK.o _ _ (fun _ => F_s.o.c) ?_
      clear hK K
      try simp only [sY]
      refine onl (i := 5) none (.store 209 (.tmp 5) (.tmp 14)) 0 (fun K hK => ?_)
      unfold bareOp
      refine wp_storeArr 209 .u32 _ _ _ (wsAll p q) _ rfl rfl rfl rfl (by rw [wsAll_len]; kernel_rfl) F_w.o (by rw [wsAll_len]; rfl) ?_
      intro w24 h24
      have H24 := Lh h24
      clear h24
      replace F_s := Lh (F_s.o.laid H24.o ne_s_w)
      replace F_r := Lh (F_r.o.laid H24.o ne_r_w)
      replace F_v := Lh (F_v.o.laid H24.o (Ne.symm ne_w_v))
      replace F_w := Lh (F_w.o.whole H24.o)
      replace HBW := Lh (HBW.o.trans (H24.o.below _ le_w))
      clear H24
      refine hK.o _ _ (fun _ => F_s.o.c) ?_
      clear hK K
      try simp only [sY]
      refine onl (i := 6) none (.store 191 (.tmp 6) (.tmp 15)) 0 (fun K hK => ?_)
      unfold bareOp
      refine wp_storeArr 191 .u32 _ _ _ s.l _ rfl rfl rfl rfl (by kernel_rfl) F_v.o (by rfl) ?_
      intro w25 h25
      have H25 := Lh h25
      clear h25
      replace F_s := Lh (F_s.o.laid H25.o ne_s_v)
      replace F_r := Lh (F_r.o.laid H25.o ne_r_v)
      replace F_w := Lh (F_w.o.laid H25.o ne_w_v)
      replace F_v := Lh (F_v.o.whole H25.o)
      replace HBW := Lh (HBW.o.trans (H25.o.below _ le_v))
      clear H25
      refine hK.o _ _ lt8 ?_
      clear hK K
      try simp only [sY]
      refine wpAnyB_done (by kernel_rfl) ?_ _
      go_wp2_with fail
      go_meet
      case rel => exact ⟨_, _, rfl, rfl, ⟨F_s.o, F_r.o, F_w.o, F_v.o, Ne.symm ne_s_v, Ne.symm ne_r_v, Ne.symm ne_w_v, ne_s_r, le_v, hle, HBW.o⟩⟩
    · skip
      unfold bareOp
      refine wp_allocArr 191 .u32 8 rfl (by kernel_rfl) ?_
      intro w22 h22
      have H22 := Lh h22
      clear h22
      have ne_s_v := Nat.ne_of_lt F_s.o.lt
      replace F_s := Lh (F_s.o.keep (H22.o.below _ (Nat.le_refl _)))
      have ne_r_v := Nat.ne_of_lt F_r.o.lt
      replace F_r := Lh (F_r.o.keep (H22.o.below _ (Nat.le_refl _)))
      have ne_w_v := Nat.ne_of_lt F_w.o.lt
      replace F_w := Lh (F_w.o.keep (H22.o.below _ (Nat.le_refl _)))
      have le_v := HBW.o.size
      have F_v := Lh H22.o.arr
      replace HBW := Lh (HBW.o.trans (H22.o.below _ HBW.o.size))
      clear H22
      refine hK.o _ _ (fun _ => F_s.o.c) ?_
      clear hK K
      try simp only [sY]
      refine onl (i := 1) (some 14) (.call { callee := .value (.func 165), args := #[.tmp 13], argTypes := #[80] }) 209 (fun K hK => ?_)
      unfold bareOp
      go_wp2_with (go_at_call 165; refine (dspread_any (q := q) (p := p) _ (HS.o.below HBW.o hsl) hm).mono ?_; rintro e w23 ⟨rfl, hb23⟩)
      replace F_s := Lh (F_s.o.keep hb23)
      replace F_r := Lh (F_r.o.keep hb23)
      replace F_w := Lh (F_w.o.keep hb23)
      replace F_v := Lh (F_v.o.keep hb23)
      replace HBW := Kt HBW hb23
      clear hb23
      refine hK.o _ _ (fun _ => F_s.o.c) ?_
      clear hK K
      try simp only [sY]
      refine onl (i := 5) none (.store 209 (.tmp 5) (.tmp 14)) 0 (fun K hK => ?_)
      unfold bareOp
      refine wp_storeArr 209 .u32 _ _ _ (wsAll p q) _ rfl rfl rfl rfl (by rw [wsAll_len]; kernel_rfl) F_w.o (by rw [wsAll_len]; rfl) ?_
      intro w24 h24
      have H24 := Lh h24
      clear h24
      replace F_s := Lh (F_s.o.laid H24.o ne_s_w)
      replace F_r := Lh (F_r.o.laid H24.o ne_r_w)
      replace F_v := Lh (F_v.o.laid H24.o (Ne.symm ne_w_v))
      replace F_w := Lh (F_w.o.whole H24.o)
      replace HBW := Lh (HBW.o.trans (H24.o.below _ le_w))
      clear H24
      refine hK.o _ _ (fun _ => F_s.o.c) ?_
      clear hK K
      try simp only [sY]
      refine onl (i := 6) none (.store 191 (.tmp 6) (.tmp 15)) 0 (fun K hK => ?_)
      unfold bareOp
      refine wp_storeArr 191 .u32 _ _ _ s.l _ rfl rfl rfl rfl (by kernel_rfl) F_v.o (by rfl) ?_
      intro w25 h25
      have H25 := Lh h25
      clear h25
      replace F_s := Lh (F_s.o.laid H25.o ne_s_v)
      replace F_r := Lh (F_r.o.laid H25.o ne_r_v)
      replace F_w := Lh (F_w.o.laid H25.o ne_w_v)
      replace F_v := Lh (F_v.o.whole H25.o)
      replace HBW := Lh (HBW.o.trans (H25.o.below _ le_v))
      clear H25
      refine hK.o _ _ lt8 ?_
      clear hK K
      try simp only [sY]
      refine wpAnyB_done (by kernel_rfl) ?_ _
      go_wp2_with fail
      go_meet
      case rel => exact ⟨_, _, rfl, rfl, ⟨F_s.o, F_r.o, F_w.o, F_v.o, Ne.symm ne_s_v, Ne.symm ne_r_v, Ne.symm ne_w_v, ne_s_r, le_v, hle, HBW.o⟩⟩
  · skip
    unfold bareOp
    refine wp_allocArr 191 .u32 8 rfl (by kernel_rfl) ?_
    intro w21 h21
    have H21 := Lh h21
    clear h21
    have ne_s_v := Nat.ne_of_lt F_s.o.lt
    replace F_s := Lh (F_s.o.keep (H21.o.below _ (Nat.le_refl _)))
    have ne_r_v := Nat.ne_of_lt F_r.o.lt
    replace F_r := Lh (F_r.o.keep (H21.o.below _ (Nat.le_refl _)))
    have le_v := HBW.o.size
    have F_v := Lh H21.o.arr
    replace HBW := Lh (HBW.o.trans (H21.o.below _ HBW.o.size))
    clear H21
    refine hK.o _ _ (fun _ => F_s.o.c) ?_
    clear hK K
    try simp only [sY]
    refine wpAnyB_two (i := 1) (j := 3) (some 14) (Op.call { callee := Callee.value (Operand.func 165), args := #[Operand.tmp 13], argTypes := #[80] }) 209 (some 5) (Op.alloc 209) 0 ⟨_, rfl, rfl, rfl, rfl, rfl⟩ ⟨_, rfl, rfl, rfl, rfl, rfl⟩ (by kernel_rfl) (fun K hK => ?_) (fun K hK => ?_)
    · skip
      unfold bareOp
      go_wp2_with (go_at_call 165; refine (dspread_any (q := q) (p := p) _ (HS.o.below HBW.o hsl) hm).mono ?_; rintro e w22 ⟨rfl, hb22⟩)
      replace F_s := Lh (F_s.o.keep hb22)
      replace F_r := Lh (F_r.o.keep hb22)
      replace F_v := Lh (F_v.o.keep hb22)
      replace HBW := Kt HBW hb22
      clear hb22
      refine hK.o _ _ (fun _ => F_s.o.c) ?_
      clear hK K
      try simp only [sY]
      refine onl (i := 3) (some 5) (.alloc 209) 0 (fun K hK => ?_)
      unfold bareOp
      refine wp_allocArr 209 .u32 64 rfl (by kernel_rfl) ?_
      intro w23 h23
      have H23 := Lh h23
      clear h23
      have ne_s_w := Nat.ne_of_lt F_s.o.lt
      replace F_s := Lh (F_s.o.keep (H23.o.below _ (Nat.le_refl _)))
      have ne_r_w := Nat.ne_of_lt F_r.o.lt
      replace F_r := Lh (F_r.o.keep (H23.o.below _ (Nat.le_refl _)))
      have ne_v_w := Nat.ne_of_lt F_v.o.lt
      replace F_v := Lh (F_v.o.keep (H23.o.below _ (Nat.le_refl _)))
      have le_w := HBW.o.size
      have F_w := Lh H23.o.arr
      replace HBW := Lh (HBW.o.trans (H23.o.below _ HBW.o.size))
      clear H23
      refine hK.o _ _ (fun _ => F_s.o.c) ?_
      clear hK K
      try simp only [sY]
      refine onl (i := 5) none (.store 209 (.tmp 5) (.tmp 14)) 0 (fun K hK => ?_)
      unfold bareOp
      refine wp_storeArr 209 .u32 _ _ _ (wsAll p q) _ rfl rfl rfl rfl (by rw [wsAll_len]; kernel_rfl) F_w.o (by rw [wsAll_len]; rfl) ?_
      intro w24 h24
      have H24 := Lh h24
      clear h24
      replace F_s := Lh (F_s.o.laid H24.o ne_s_w)
      replace F_r := Lh (F_r.o.laid H24.o ne_r_w)
      replace F_v := Lh (F_v.o.laid H24.o ne_v_w)
      replace F_w := Lh (F_w.o.whole H24.o)
      replace HBW := Lh (HBW.o.trans (H24.o.below _ le_w))
      clear H24
      refine hK.o _ _ (fun _ => F_s.o.c) ?_
      clear hK K
      try simp only [sY]
      refine onl (i := 6) none (.store 191 (.tmp 6) (.tmp 15)) 0 (fun K hK => ?_)
      unfold bareOp
      refine wp_storeArr 191 .u32 _ _ _ s.l _ rfl rfl rfl rfl (by kernel_rfl) F_v.o (by rfl) ?_
      intro w25 h25
      have H25 := Lh h25
      clear h25
      replace F_s := Lh (F_s.o.laid H25.o ne_s_v)
      replace F_r := Lh (F_r.o.laid H25.o ne_r_v)
      replace F_w := Lh (F_w.o.laid H25.o (Ne.symm ne_v_w))
      replace F_v := Lh (F_v.o.whole H25.o)
      replace HBW := Lh (HBW.o.trans (H25.o.below _ le_v))
      clear H25
      refine hK.o _ _ lt8 ?_
      clear hK K
      try simp only [sY]
      refine wpAnyB_done (by kernel_rfl) ?_ _
      go_wp2_with fail
      go_meet
      case rel => exact ⟨_, _, rfl, rfl, ⟨F_s.o, F_r.o, F_w.o, F_v.o, Ne.symm ne_s_v, Ne.symm ne_r_v, ne_v_w, ne_s_r, le_v, hle, HBW.o⟩⟩
    · skip
      unfold bareOp
      refine wp_allocArr 209 .u32 64 rfl (by kernel_rfl) ?_
      intro w22 h22
      have H22 := Lh h22
      clear h22
      have ne_s_w := Nat.ne_of_lt F_s.o.lt
      replace F_s := Lh (F_s.o.keep (H22.o.below _ (Nat.le_refl _)))
      have ne_r_w := Nat.ne_of_lt F_r.o.lt
      replace F_r := Lh (F_r.o.keep (H22.o.below _ (Nat.le_refl _)))
      have ne_v_w := Nat.ne_of_lt F_v.o.lt
      replace F_v := Lh (F_v.o.keep (H22.o.below _ (Nat.le_refl _)))
      have le_w := HBW.o.size
      have F_w := Lh H22.o.arr
      replace HBW := Lh (HBW.o.trans (H22.o.below _ HBW.o.size))
      clear H22
      refine hK.o _ _ (fun _ => F_s.o.c) ?_
      clear hK K
      try simp only [sY]
      refine onl (i := 1) (some 14) (.call { callee := .value (.func 165), args := #[.tmp 13], argTypes := #[80] }) 209 (fun K hK => ?_)
      unfold bareOp
      go_wp2_with (go_at_call 165; refine (dspread_any (q := q) (p := p) _ (HS.o.below HBW.o hsl) hm).mono ?_; rintro e w23 ⟨rfl, hb23⟩)
      replace F_s := Lh (F_s.o.keep hb23)
      replace F_r := Lh (F_r.o.keep hb23)
      replace F_v := Lh (F_v.o.keep hb23)
      replace F_w := Lh (F_w.o.keep hb23)
      replace HBW := Kt HBW hb23
      clear hb23
      refine hK.o _ _ (fun _ => F_s.o.c) ?_
      clear hK K
      try simp only [sY]
      refine onl (i := 5) none (.store 209 (.tmp 5) (.tmp 14)) 0 (fun K hK => ?_)
      unfold bareOp
      refine wp_storeArr 209 .u32 _ _ _ (wsAll p q) _ rfl rfl rfl rfl (by rw [wsAll_len]; kernel_rfl) F_w.o (by rw [wsAll_len]; rfl) ?_
      intro w24 h24
      have H24 := Lh h24
      clear h24
      replace F_s := Lh (F_s.o.laid H24.o ne_s_w)
      replace F_r := Lh (F_r.o.laid H24.o ne_r_w)
      replace F_v := Lh (F_v.o.laid H24.o ne_v_w)
      replace F_w := Lh (F_w.o.whole H24.o)
      replace HBW := Lh (HBW.o.trans (H24.o.below _ le_w))
      clear H24
      refine hK.o _ _ (fun _ => F_s.o.c) ?_
      clear hK K
      try simp only [sY]
      refine onl (i := 6) none (.store 191 (.tmp 6) (.tmp 15)) 0 (fun K hK => ?_)
      unfold bareOp
      refine wp_storeArr 191 .u32 _ _ _ s.l _ rfl rfl rfl rfl (by kernel_rfl) F_v.o (by rfl) ?_
      intro w25 h25
      have H25 := Lh h25
      clear h25
      replace F_s := Lh (F_s.o.laid H25.o ne_s_v)
      replace F_r := Lh (F_r.o.laid H25.o ne_r_v)
      replace F_w := Lh (F_w.o.laid H25.o (Ne.symm ne_v_w))
      replace F_v := Lh (F_v.o.whole H25.o)
      replace HBW := Lh (HBW.o.trans (H25.o.below _ le_v))
      clear H25
      refine hK.o _ _ lt8 ?_
      clear hK K
      try simp only [sY]
      refine wpAnyB_done (by kernel_rfl) ?_ _
      go_wp2_with fail
      go_meet
      case rel => exact ⟨_, _, rfl, rfl, ⟨F_s.o, F_r.o, F_w.o, F_v.o, Ne.symm ne_s_v, Ne.symm ne_r_v, ne_v_w, ne_s_r, le_v, hle, HBW.o⟩⟩
 case rest =>
  obtain ⟨Bw, Bv, rfl, rfl, HI⟩ := hcut
  clear F_s F_r HBW hle ne_s_r
  generalize w1.heap.size = Br at HI
  go_wp2_with fail
  go_loopw [16] (fun c16 wr => ∃ t : Nat, t ≤ 64 ∧ c16 = .int .i64 t ∧ Hid (StepIn w wr w.heap.size Br Bw Bv s (rnds p q s t) p q)) (fun c16 _ => 64 - (intOf c16).toNat)
  case atStart => exact ⟨0, by omega, rfl, HI.o⟩
  case round =>
   clear HI
   obtain ⟨t, ht, rfl, HI⟩ := hrel
   by_cases hlt : t < 64
   case pos =>
    obtain ⟨v, hv⟩ : ∃ v, rnds p q s t = v := ⟨_, rfl⟩
    rw [hv] at HI
    have HV := Lh hv
    clear hv
    obtain ⟨va, vb, vc, vd, ve, vf, vg, vh⟩ := v
    obtain ⟨kk, hkk⟩ : ∃ x, kAt t = x := ⟨_, rfl⟩
    have HKK := Lh hkk
    clear hkk
    obtain ⟨ww, hww⟩ : ∃ x, ws p q t = x := ⟨_, rfl⟩
    have HWW := Lh hww
    clear hww
    have c0 : wr.cell? ⟨Bv, 0, none⟩ = some (.int .u32 va) := HI.o.fv.c 0 (by decide : 0 < 8)
    have c1 : wr.cell? ⟨Bv, 1, none⟩ = some (.int .u32 vb) := HI.o.fv.c 1 (by decide : 1 < 8)
    have c2 : wr.cell? ⟨Bv, 2, none⟩ = some (.int .u32 vc) := HI.o.fv.c 2 (by decide : 2 < 8)
    have c3 : wr.cell? ⟨Bv, 3, none⟩ = some (.int .u32 vd) := HI.o.fv.c 3 (by decide : 3 < 8)
    have c4 : wr.cell? ⟨Bv, 4, none⟩ = some (.int .u32 ve) := HI.o.fv.c 4 (by decide : 4 < 8)
    have c5 : wr.cell? ⟨Bv, 5, none⟩ = some (.int .u32 vf) := HI.o.fv.c 5 (by decide : 5 < 8)
    have c6 : wr.cell? ⟨Bv, 6, none⟩ = some (.int .u32 vg) := HI.o.fv.c 6 (by decide : 6 < 8)
    have c7 : wr.cell? ⟨Bv, 7, none⟩ = some (.int .u32 vh) := HI.o.fv.c 7 (by decide : 7 < 8)
    have ck := (HT.o.below HI.o.bel).k t hlt
    rw [HKK.o] at ck
    have cw := HI.o.fw.c t (by rw [wsAll_len]; exact hlt)
    rw [wsAll_get _ _ _ hlt, HWW.o] at cw
    have hd : decide ((t : Int) < 64) = true := by simp; omega
    have l64 : (t : Int) < 64 := by omega
    have t0 : (0 : Int) ≤ (t : Int) := by omega
    have hw1 : IntKind.i64.wrap ((t : Int) + 1) = (t : Int) + 1 := IntWalk.i64_in _ (by omega)
    go_wp2_with fail
    go_quiet (fail)
    go_wp2_with fail
    replace HI := Lh (HI.o.drewN nq)
    clear c0 c1 c2 c3 c4 c5 c6 c7 ck cw
    generalize wr.drewN nq = wq at HI ⊢
    have c0 : wq.cell? ⟨Bv, 0, none⟩ = some (.int .u32 va) := HI.o.fv.c 0 (by decide : 0 < 8)
    have c1 : wq.cell? ⟨Bv, 1, none⟩ = some (.int .u32 vb) := HI.o.fv.c 1 (by decide : 1 < 8)
    have c2 : wq.cell? ⟨Bv, 2, none⟩ = some (.int .u32 vc) := HI.o.fv.c 2 (by decide : 2 < 8)
    have c3 : wq.cell? ⟨Bv, 3, none⟩ = some (.int .u32 vd) := HI.o.fv.c 3 (by decide : 3 < 8)
    have c4 : wq.cell? ⟨Bv, 4, none⟩ = some (.int .u32 ve) := HI.o.fv.c 4 (by decide : 4 < 8)
    have c5 : wq.cell? ⟨Bv, 5, none⟩ = some (.int .u32 vf) := HI.o.fv.c 5 (by decide : 5 < 8)
    have c6 : wq.cell? ⟨Bv, 6, none⟩ = some (.int .u32 vg) := HI.o.fv.c 6 (by decide : 6 < 8)
    have c7 : wq.cell? ⟨Bv, 7, none⟩ = some (.int .u32 vh) := HI.o.fv.c 7 (by decide : 7 < 8)
    have ck := (HT.o.below HI.o.bel).k t hlt
    rw [HKK.o] at ck
    have cw := HI.o.fw.c t (by rw [wsAll_len]; exact hlt)
    rw [wsAll_get _ _ _ hlt, HWW.o] at cw
    go_quiet ((go_at_call 166; refine Calls.quiet_of (dright_z _ (by decide) (by decide))))
    go_wp2_with fail
    replace HI := Lh (HI.o.drewN nq)
    clear c0 c1 c2 c3 c4 c5 c6 c7 ck cw
    generalize wq.drewN nq = wp at HI ⊢
    have c0 : wp.cell? ⟨Bv, 0, none⟩ = some (.int .u32 va) := HI.o.fv.c 0 (by decide : 0 < 8)
    have c1 : wp.cell? ⟨Bv, 1, none⟩ = some (.int .u32 vb) := HI.o.fv.c 1 (by decide : 1 < 8)
    have c2 : wp.cell? ⟨Bv, 2, none⟩ = some (.int .u32 vc) := HI.o.fv.c 2 (by decide : 2 < 8)
    have c3 : wp.cell? ⟨Bv, 3, none⟩ = some (.int .u32 vd) := HI.o.fv.c 3 (by decide : 3 < 8)
    have c4 : wp.cell? ⟨Bv, 4, none⟩ = some (.int .u32 ve) := HI.o.fv.c 4 (by decide : 4 < 8)
    have c5 : wp.cell? ⟨Bv, 5, none⟩ = some (.int .u32 vf) := HI.o.fv.c 5 (by decide : 5 < 8)
    have c6 : wp.cell? ⟨Bv, 6, none⟩ = some (.int .u32 vg) := HI.o.fv.c 6 (by decide : 6 < 8)
    have c7 : wp.cell? ⟨Bv, 7, none⟩ = some (.int .u32 vh) := HI.o.fv.c 7 (by decide : 7 < 8)
    have ck := (HT.o.below HI.o.bel).k t hlt
    rw [HKK.o] at ck
    have cw := HI.o.fw.c t (by rw [wsAll_len]; exact hlt)
    rw [wsAll_get _ _ _ hlt, HWW.o] at cw
    go_quiet ((go_at_call 166; refine Calls.quiet_of (dright_z _ (by decide) (by decide))))
    go_wp2_with fail
    clear c0 c1 c2 c3 c4 c5 c6 c7 ck cw
    replace HI := Lh (HI.o.drewN nq).drew
    have hS := trivial
    refine wp_region_stage 2 (fun _ => True) (by kernel_rfl) ?_
    refine tkQ 0 (some 75) (.slice 191 (.tmp 6) (some (.const (.int .i64 1))) none none) 218 ?_
    simp only [sY]
    refine tkQ 1 (some 76) (.slice 191 (.tmp 6) none (some (.const (.int .i64 7))) none) 218 ?_
    simp only [sY]
    refine onl (i := 2) (some 77) (.call { callee := .builtin .copy, args := #[.tmp 75, .tmp 76], argTypes := #[218, 218] }) 3 (fun K hK => ?_)
    unfold bareOp
    refine wp_copyArr _ _ _ _ rfl 108 Tryz.underlying218 (by kernel_rfl) .u32 Bv Bv 1 0 7 7 7 8 rfl rfl [va, vb, vc, vd, ve, vf, vg] rfl (fun i hi => by rw [Nat.zero_add, HI.o.fv.c i (Nat.lt_succ_of_lt hi : i < 8)]; exact congrArg (fun z => some (Value.int .u32 z)) (take7 hi)) (fun i hi => by rw [HI.o.fv.c (1 + i) (by have : i < 7 := hi; show 1 + i < 8; omega)]; rfl) (fun i hi => HI.o.fv.f _) ?_
    intro w9 h9
    have HJ := Lh (StepIn.laid (v' := ⟨va, va, vb, vc, vd, ve, vf, vg⟩) HI.o h9 (HI.o.fv.shift h9))
    clear h9
    refine hK.o _ _ lt8 ?_
    clear hK K
    try simp only [sY]
    refine wpAnyB_done (by kernel_rfl) ?_ _
    have d4 : w9.cell? ⟨Bv, 4, none⟩ = some (.int .u32 vd) := HJ.o.fv.c 4 (by decide : 4 < 8)
    have d0 : w9.cell? ⟨Bv, 0, none⟩ = some (.int .u32 va) := HJ.o.fv.c 0 (by decide : 0 < 8)
    have f4 := HJ.o.fv.f 4
    have f0 := HJ.o.fv.f 0
    go_wp2_with fail
    clear d4 d0
    go_roundw
    case rel =>
     refine ⟨t + 1, by omega, by go_num, ?_⟩
     rw [rnds, HV.o]
     refine StepIn.round (x := xOf ⟨va, vb, vc, vd, ve, vf, vg, vh⟩ (kAt t) (ws p q t)) (y := yOf ⟨va, vb, vc, vd, ve, vf, vg, vh⟩) HJ.o ?_ ?_
     · rw [HKK.o, HWW.o]
       simp only [xOf, big1, ch]
       unfold M
       omega
     · rw [HKK.o, HWW.o]
       simp only [xOf, yOf, big1, big0, ch, mj]
       unfold M
       omega
    case measure => simp [intOf]; omega
   case neg =>
    obtain rfl : t = 64 := by omega
    simp only [Int.cast_ofNat_Int]
    obtain ⟨v, hv⟩ : ∃ v, rnds p q s 64 = v := ⟨_, rfl⟩
    rw [hv] at HI
    have HV := Lh hv
    clear hv
    have HJ := Lh (show AddIn w wr w.heap.size Br Bv (mixL s v 0) v from ⟨HI.o.fs, HI.o.fr, HI.o.fv, HI.o.vs, HI.o.sr, Nat.le_refl _, HI.o.rl, HI.o.bel⟩)
    clear HI
    go_wp2_with fail
    go_loopw [88] (fun c88 wr => ∃ i : Nat, i ≤ 8 ∧ c88 = .int .i64 i ∧ Hid (AddIn w wr w.heap.size Br Bv (mixL s v i) v)) (fun c88 _ => 8 - (intOf c88).toNat)
    case atStart => exact ⟨0, by omega, rfl, HJ.o⟩
    case round =>
     clear HJ ht hlt
     obtain ⟨i, hi, rfl, HJ⟩ := hrel
     by_cases hlt : i < 8
     case pos =>
      obtain ⟨x, hx⟩ : ∃ x, s.l.getD i 0 = x := ⟨_, rfl⟩
      obtain ⟨y, hy⟩ : ∃ y, v.l.getD i 0 = y := ⟨_, rfl⟩
      have hd : decide ((i : Int) < 8) = true := by simp; omega
      have l8 : (i : Int) < 8 := by omega
      have i0 : (0 : Int) ≤ (i : Int) := by omega
      have hw1 : IntKind.i64.wrap ((i : Int) + 1) = (i : Int) + 1 := IntWalk.i64_in _ (by omega)
      go_wp2_with fail
      replace HJ := Lh HJ.o.drew
      have cs := HJ.o.fs.c i (by rw [mixL_len]; exact hlt)
      rw [mixL_get _ _ _ hlt, hx] at cs
      have cv := HJ.o.fv.c i hlt
      rw [hy] at cv
      have fz := HJ.o.fs.f i
      have HX := Lh hx
      have HY := Lh hy
      clear hx hy
      have hS := And.intro cs cv
      refine wp_region_stage 8 (fun w' => w'.cell? ⟨w.heap.size, i, none⟩ = some (.int .u32 x) ∧ w'.cell? ⟨Bv, i, none⟩ = some (.int .u32 y)) (by kernel_rfl) ?_
      refine tkQ 0 (some 91) (.move (.tmp 12)) 3 ?_
      simp only [sY]
      refine tkQ 1 (some 92) (.indexAddr 191 (.tmp 2) (.tmp 91)) 0 ?_
      simp only [sY]
      refine tkL (i := 2) (some 93) (.load 108 (.tmp 92)) 108 [6, 7, 8] (v := ?_) hS (fun w' hSw => ?_) ?_
      rotate_left
      · obtain ⟨a1, a2⟩ := hSw
        unfold bareOp; go_simp; try with_reducible rfl
      simp only [sY]
      refine tkQ 3 (some 94) (.move (.tmp 12)) 3 ?_
      simp only [sY]
      refine tkQ 4 (some 95) (.indexAddr 191 (.tmp 6) (.tmp 94)) 0 ?_
      simp only [sY]
      refine tkL (i := 5) (some 96) (.load 108 (.tmp 95)) 108 [6, 7, 8] (v := ?_) hS (fun w' hSw => ?_) ?_
      rotate_left
      · obtain ⟨a1, a2⟩ := hSw
        unfold bareOp; go_simp; try with_reducible rfl
      simp only [sY]
      refine tkQ 6 (some 97) (.binOp .add 108 (.tmp 93) (.tmp 96) 108) 108 ?_
      simp only [sY]
      refine tkQ 7 (some 98) (.indexAddr 191 (.tmp 2) (.tmp 91)) 0 ?_
      simp only [sY]
      refine onl (i := 8) none (.store 108 (.tmp 98) (.tmp 97)) 0 (fun K hK => ?_)
      unfold bareOp
      go_wp2_with fail
      refine hK.o _ _ lt8 ?_
      clear hK K
      try simp only [sY]
      refine wpAnyB_done (by kernel_rfl) ?_ _
      go_wp2_with fail
      go_roundw
      case rel =>
       refine ⟨i + 1, by omega, by go_num, AddIn.set HJ.o (by rw [mixL_len]; exact hlt) (mixL_succ s v i hlt ?_)⟩
       rw [HX.o, HY.o]
       unfold M
       omega
      case measure => simp [intOf]; omega
     case neg =>
      obtain rfl : i = 8 := by omega
      rw [mixL_all] at HJ
      go_wp2_with (first
       | (refine wpL_loadArr rfl 191 .u32 _ w.heap.size _ 8 108 rfl rfl Tryz.underlying191 (by kernel_rfl) HJ.o.fs ?_)
       | (refine wpL_storeArr rfl 191 .u32 _ _ Br _ _ rfl rfl rfl rfl (by kernel_rfl) HJ.o.fr rfl ?_; intro w9 h9; have H9 := Lh h9; clear h9))
      refine bodyPost_ret (res_arr .u32 Br 0 (add8 s v).l 8 108 rfl Tryz.underlying191 (by kernel_rfl) _ rfl H9.o.row) rfl ?_
      exact ⟨by rw [stepS, HV.o], HJ.o.bel.trans (H9.o.below _ HJ.o.rl)⟩
end Go.Proofs.YtlbldpkgnonbpaaGreatDoor
