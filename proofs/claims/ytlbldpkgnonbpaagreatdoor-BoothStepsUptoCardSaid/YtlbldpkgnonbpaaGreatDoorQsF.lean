/- Folded: DigZ, DigD, DigE, DigF, DigG, DigH, DigI. -/
import Derived.Test.YtlbldpkgnonbpaaGreatDoorQsE
import Derived.OneCell
import Derived.Laws.OwnMore
import Derived.Laws.AppendOwn
import Derived.Laws.MakeOwn
import Derived.OwnWalk
import Derived.Lib.SliceRun
import Derived.Test.YtlbldpkgnonbpaaGreatDoorQsD
import Derived.RangeFuncNested
import Derived.RangeFuncBound
import Derived.RangeFuncCalls
import Derived.RangeFuncLeaves
import Derived.RangeFuncBox
import Derived.RangeFuncWrites
import Derived.Shelf.Abstract
import Derived.WalkKit
import Derived.BigQuiet
import Derived.OwnWalkIn
import Derived.TacticsInMore
import Derived.LoopNIn
import Derived.LoopIn
set_option linter.unusedSimpArgs false
set_option linter.unusedVariables false
set_option maxRecDepth 100000
/- 'append(s, make([]byte, m)...)' on a row of the call's own; slices.Clone of bytes. -/
namespace Go.Proofs.YtlbldpkgnonbpaaGreatDoor
open Go Go.RowKit
theorem zeroCells_toList (z : Value) (m : Nat) : (Builtin.zeroCells #[z] m).toList = List.replicate m z := by
 have : Builtin.zeroCells #[z] m = madeCells #[z] m := by simp [Builtin.zeroCells, madeCells]
 rw [this, toList_madeCells_one]
section
variable {P : Program} (w : World)
theorem run_append_zeros (base : Nat) (t it ty e : TypeId) (i : TypeInfo) (ht : P.underlying t = some (.slice e)) (hit : P.underlying it = some (.int .i64)) (hi : P.info? e = some i) (hz : i.zero = some (.int .u8 0)) (hsize : i.size = 1) (hby : i.bytes = 1)
 (g n cap : Nat) (xs : List Value) (hown : w.ownsRow base e 1 (.slice (some ⟨g, 0, none⟩) n cap) n xs) (m : Nat) (hm : n + m ≤ 1000000) (hbase : base ≤ w.heap.size) :
 ∃ v' w', (Builtin.append_ #[t, it] ty #[.slice (some ⟨g, 0, none⟩) n cap, .int .i64 m]).run P w = .ok v' w' ∧ w'.ownsRow base e 1 v' (n + m) (xs ++ List.replicate m (Value.int .u8 0)) ∧ w.grownBy w' (some g) := by
 have hlen : (xs ++ List.replicate m (Value.int .u8 0)).length = (n + m) * 1 := by rw [List.length_append, hown.1, List.length_replicate]; omega
 have hxl : xs.length = n := by have := hown.1; omega
 have hcl : ∀ j u, xs[j]? = some u → w.cell? ((⟨g, 0, none⟩ : Addr).add j) = some u := World.ownsRow.cells hown (g := g) rfl
 have hzc : (Value.int IntKind.u8 0).cells = #[.int .u8 0] := rfl
 have hw : IntKind.i64.wrap (m : Int) = m := IntWalk.i64_in _ (by omega)
 have hneg : ¬ ((m : Int) < 0) := by omega
 have h48 : ¬ (281474976710656 < (m : Int)) := by omega
 have hw0 : IntKind.i64.wrap 0 = 0 := IntWalk.i64_in 0 (by omega)
 rcases hown.2 with ⟨h0, -⟩ | ⟨g', cap', cur, hv, hbg, hg, hnc, hcm, hcs, htake⟩
 · cases h0
 · injection hv with hv1 hv2 hv3
   injection hv1 with hv1
   injection hv1 with hv1
   subst hv1 hv3
   by_cases hm0 : m = 0
   · subst hm0
     refine ⟨.slice (some ⟨g, 0, none⟩) n cap, w, ?_, by simpa using hown, World.grownBy.refl w _⟩
     simp [Builtin.append_, run_underlying ht, run_underlying hit, sizeOf, typeInfo, hi, hsize, hby, asInt, asIntOf, hw0, hnc, storeCells]
   · by_cases hroom : n + m ≤ cap
     · have hst := run_storeCells_at P g n e (List.replicate m (Value.int .u8 0)) 0 cur w hg (by simp; omega) (fun u hu => by rw [List.eq_of_mem_replicate hu]; rfl)
       simp only [Nat.add_zero] at hst
       refine ⟨.slice (some ⟨g, 0, none⟩) (n + m) cap, w.setRow g (cur.toList.take n ++ List.replicate m (Value.int .u8 0) ++ cur.toList.drop (n + (List.replicate m (Value.int .u8 0)).length)).toArray, ?_, ⟨hlen, .inr ⟨g, cap, _, rfl, hbg, setRow_heap w g cur _ e _ hg, hroom, hcm, ?_, ?_⟩⟩, ⟨rfl, rfl, rfl, by simp, fun k _ hk => setRow_other w g k _ (fun e => hk (by simp [e]))⟩⟩
       · have e0 : (⟨g, 0, none⟩ : Addr).add n = ⟨g, n, none⟩ := by rw [add_plain', Nat.zero_add]
         simp [Builtin.append_, run_underlying ht, run_underlying hit, sizeOf, typeInfo, zeroValue, hi, hz, hsize, hby, asInt, asIntOf, hw, hneg, h48, hm0, hroom, hzc, zeroCells_toList, e0, hst]
       · simp; omega
       · simp only [Nat.mul_one] at htake ⊢
         rw [htake]
         exact List.take_left' (by rw [List.length_append, List.length_replicate, hxl])
     · have hge := grownCap_ge w (n + m) cap e
       have hcm2 : grownCap w (n + m) cap e ≤ maxLen := grownCap_le_maxLen w (n + m) cap e (by unfold maxLen; omega)
       have h63' : ¬ (9223372036854775807 < (n : Int) + (m : Int)) := by omega
       have h49 : ¬ (281474976710656 < Builtin.nextslicecap (n + m) cap) := by
        have := growslice_fits (bytes := 1) (need := n + m) (old := cap) (by omega) (by omega)
        omega
       have hfo := run_firstCells_some (P := P) w.drew 1 n ⟨g, 0, none⟩ n cap xs (by omega) (by simpa using hcl)
       refine ⟨.slice (some ⟨w.heap.size, 0, none⟩) (n + m) (grownCap w (n + m) cap e), w.drew.alloc (.cells (xs.toArray ++ Builtin.zeroCells #[.int .u8 0] m ++ Builtin.zeroCells #[.int .u8 0] (grownCap w (n + m) cap e - (n + m))) e), ?_, ⟨hlen, .inr ⟨w.heap.size, _, _, rfl, hbase, heap_alloc_new w.drew _, hge, hcm2, ?_, ?_⟩⟩, ⟨rfl, rfl, rfl, by simp, fun k hk _ => heap_alloc_old w.drew _ (show k < w.drew.heap.size from hk)⟩⟩
       · simp [Builtin.append_, run_underlying ht, run_underlying hit, sizeOf, typeInfo, zeroValue, hi, hz, hsize, hby, asInt, asIntOf, hw, hneg, h48, hm0, hroom, hzc, h63', h49, Question.forced, hfo, newRow, grownCap]
       · simp only [Array.size_append, List.size_toArray, size_zeroCells, hxl]
         simp
         omega
       · simp only [Array.toList_append, zeroCells_toList, Nat.mul_one]
         exact List.take_left' (by simp [hxl])
end
end Go.Proofs.YtlbldpkgnonbpaaGreatDoor
/- slices.Clone of bytes; digest.padded. -/
namespace Go.Proofs.YtlbldpkgnonbpaaGreatDoor
open Go Go.RowKit Sha
def OwnB (w : World) (n₀ : Nat) (v : Value) (xs : List Int) : Prop := w.ownsRow n₀ 5 1 v xs.length (xs.map (Value.int .u8))
theorem OwnB.keep {w w' : World} {n₀ : Nat} {v : Value} {xs : List Int} (h : OwnB w n₀ v xs) (hb : Below w.heap.size w w') : OwnB w' n₀ v xs :=
 World.ownsRow.kept (row := none) h ⟨hb.os, hb.tape, hb.output, hb.size, fun k hk _ => hb.block k hk⟩ (by
  by_cases e : v.ownBlock = none
  · exact .inl e
  · exact .inr e)
theorem OwnB.some {w : World} {n₀ : Nat} {v : Value} {xs : List Int} (h : OwnB w n₀ v xs) (h1 : 1 ≤ xs.length) : ∃ g cap, v = .slice (some ⟨g, 0, none⟩) xs.length cap ∧ n₀ ≤ g ∧ g < w.heap.size := by
 rcases h.2 with ⟨-, h0⟩ | ⟨g, cap, cur, rfl, b, c, d⟩
 · omega
 · exact ⟨g, cap, rfl, World.ownsRow.lt h g rfl⟩
theorem OwnB.grow {w0 w w' : World} {n₀ : Nat} {v : Value} {xs : List Int} (hb : Below n₀ w0 w) (h : OwnB w n₀ v xs) (hg : w.grownBy w' v.ownBlock) (hn : n₀ ≤ w.heap.size) : Below n₀ w0 w' :=
 hb.grown hg hn (fun k hk => (World.ownsRow.lt h k hk).1)
theorem OwnB.shi {w : World} {n₀ : Nat} {v : Value} {xs : List Int} (h : OwnB w n₀ v xs) : ∃ a c, v = .slice a xs.length c ∧ ShI .u8 w a xs.length xs := ShI.of_owned h
section
variable {P : Program} {w : World} {ops : Array Oper} {rest : List Oper} {o : Oper} {a : Act} {Q : Exit → Act → World → Prop}
theorem wpL_append_zeros (hgd : o.guard = none) (s x : Operand) (t it : TypeId) (ho : o.op = .call { callee := .builtin .append, args := #[s, x], argTypes := #[t, it] })
 (base : Nat) (e : TypeId) (i : TypeInfo) (ht : P.underlying t = some (.slice e)) (hit : P.underlying it = some (.int .i64)) (hi : P.info? e = some i) (hz : i.zero = some (.int .u8 0)) (hsize : i.size = 1) (hby : i.bytes = 1)
 (g n cap m : Nat) (xs : List Value) (hs : a.eval s = .slice (some ⟨g, 0, none⟩) n cap) (hx : a.eval x = .int .i64 m) (hown : w.ownsRow base e 1 (.slice (some ⟨g, 0, none⟩) n cap) n xs) (hm : n + m ≤ 1000000) (hbase : base ≤ w.heap.size)
 (h : ∀ v' w', w'.ownsRow base e 1 v' (n + m) (xs ++ List.replicate m (Value.int .u8 0)) → w.grownBy w' (some g) → wpList P ops Q rest (a.put o.dst v') w') : wpList P ops Q (o :: rest) a w := by
 refine wpList_plain hgd fun K hK => ?_
 obtain ⟨v', w', hr, h2, h3⟩ := run_append_zeros (P := P) w base t it o.type e i ht hit hi hz hsize hby g n cap xs hown m hm hbase
 unfold Oper.wp execOp
 simp only [ho, resolve, invoke, builtin, Sem.run_bind, Sem.run_pure, Result.andThen_ok, List.map_toArray, List.map_cons, List.map_nil, hs, hx, hr]
 exact hK _ _ (h v' w' h2 h3)
end
set_option maxHeartbeats 2000000 in
theorem bclone_any {a : Option Addr} {n c : Nat} {xs : List Int} (w : World) (h : ShI .u8 w a n xs) (hn : n ≤ 100000) :
 Calls Tryz.prog 161 #[.slice a n c] w fun e w' => ∃ v, e = .returned v ∧ OwnB w' w.heap.size v xs ∧ Below w.heap.size w w' := by
 obtain ⟨i0, hi, hz0, hz1, hz2⟩ := info_parts (P := Tryz.prog) (e := 5) (z := .int .u8 0) (size := 1) (bytes := 1) (by kernel_rfl)
 have HS := Lh h
 have hl := h.len
 have qT : ∀ (w : World) (a : Option Addr) (n c n' c' : Nat), (binOp .eql 80 (.slice a n c) (.slice none n' c')).run Tryz.prog w = .ok (.bool a.isNone) w := fun w a n c n' c' => Lib.run_eql_slice_nil w _ _ a n c n' c' Tryz.underlying80
 cases a with
 | none =>
  have hx : xs = [] := by
   rcases h with ⟨-, h⟩ | ⟨s, o, h0, -⟩
   · exact h
   · cases h0
  subst hx
  go_enter Tryz.func161, Tryz.ntmps161
  go_wp2_with fail
  go_ret
  exact ⟨_, rfl, World.ownsRow_nil _ _ _ _, Below.refl _ _⟩
 | some ad =>
  have HL := Lh (show (xs.map (Value.int IntKind.u8)).length = n * 1 by rw [List.length_map, ← hl, Nat.mul_one])
  have HLN := Lh hl
  clear hl h
  go_enter Tryz.func161, Tryz.ntmps161
  go_wp2_with (at_builtin; refine wpList_append_own _ rfl _ _ 80 rfl w.heap.size 5 i0 (.int .u8 0) 1 1 Tryz.underlying80 hi hz0 hz1 hz2 rfl (by decide) _ 0 [] rfl (World.ownsRow_lit w #[] 0 (Nat.le_refl _) (by decide) rfl) _ n c (xs.map (Value.int IntKind.u8)) rfl HL.o (HS.o.keep ((Below.refl _ _).alloc (Nat.le_refl _) _)).cells (fun u hu => by obtain ⟨x, -, rfl⟩ := List.mem_map.1 hu; rfl) (by unfold maxLen; omega) (by omega) (by simp) ?_; intro v' w1 hown hgr hnil; have HOWN := Lh hown; have HGR := Lh hgr; clear hown hgr hnil)
  go_ret
  have hb := Below.grown ((Below.refl w.heap.size w).alloc (Nat.le_refl _) _) HGR.o (by simp) (fun j hj => by have e : Option.some w.heap.size = Option.some j := hj; injection e with e; omega)
  refine ⟨_, rfl, ?_, hb⟩
  have h9 := HOWN.o
  rw [Nat.zero_add, List.nil_append] at h9
  unfold OwnB
  rw [← HLN.o]
  exact h9
theorem OwnB.snoc {w' : World} {n₀ : Nat} {v' : Value} {xs : List Int} {x : Int} (h : w'.ownsRow n₀ 5 1 v' (xs.length + 1) (xs.map (Value.int .u8) ++ [.int .u8 x])) : OwnB w' n₀ v' (xs ++ [x]) := by
 unfold OwnB
 simpa using h
theorem OwnB.zeros {w' : World} {n₀ m : Nat} {v' : Value} {xs : List Int} (h : w'.ownsRow n₀ 5 1 v' (xs.length + m) (xs.map (Value.int .u8) ++ List.replicate m (.int .u8 0))) : OwnB w' n₀ v' (xs ++ List.replicate m 0) := by
 unfold OwnB
 simpa using h
structure Grew (w0 w : World) (n₀ : Nat) (v : Value) (xs : List Int) : Prop where
 own : OwnB w n₀ v xs
 bel : Below n₀ w0 w
 le : n₀ ≤ w.heap.size
theorem Grew.first {w w' : World} {n : Nat} {v' : Value} {xs : List Int} {ob : Obj} (hn : n = xs.length) (hown : w'.ownsRow w.heap.size 5 1 v' (0 + n) ([] ++ xs.map (Value.int .u8))) (hg : (w.alloc ob).grownBy w' (Option.some w.heap.size)) : Grew w w' w.heap.size v' xs :=
 ⟨by unfold OwnB; subst hn; simpa using hown, Below.grown ((Below.refl _ _).alloc (Nat.le_refl _) ob) hg (by simp) (fun k hk => by injection hk with hk; omega), Nat.le_trans (by simp) hg.size⟩
theorem Grew.leA {w0 w : World} {n₀ : Nat} {v : Value} {xs : List Int} (h : Grew w0 w n₀ v xs) (ob : Obj) : n₀ ≤ (w.alloc ob).heap.size := Nat.le_trans h.le (by simp)
theorem Grew.snoc {w0 w w' : World} {n₀ : Nat} {v v' : Value} {xs : List Int} {x : Int} {ob : Obj} (h : Grew w0 w n₀ v xs) (hown : w'.ownsRow n₀ 5 1 v' (xs.length + 1) (xs.map (Value.int .u8) ++ [.int .u8 x])) (hg : (w.alloc ob).grownBy w' v.ownBlock) : Grew w0 w' n₀ v' (xs ++ [x]) :=
 have hb := OwnB.grow (h.bel.alloc h.le ob) (h.own.keep ((Below.refl _ _).alloc (Nat.le_refl _) ob)) hg (Nat.le_trans h.le (by simp))
 ⟨OwnB.snoc hown, hb, Nat.le_trans h.le (Nat.le_trans (by simp) hg.size)⟩
theorem Grew.zeros {w0 w w' : World} {n₀ m : Nat} {v v' : Value} {xs : List Int} {g : Nat} (h : Grew w0 w n₀ v xs) (hown : w'.ownsRow n₀ 5 1 v' (xs.length + m) (xs.map (Value.int .u8) ++ List.replicate m (.int .u8 0))) (hg : w.grownBy w' (Option.some g)) (hv : v.ownBlock = Option.some g) : Grew w0 w' n₀ v' (xs ++ List.replicate m 0) :=
 ⟨OwnB.zeros hown, OwnB.grow h.bel h.own (hv ▸ hg) h.le, Nat.le_trans h.le hg.size⟩
def padN (xs : List Int) (n k : Nat) : List Int := xs ++ [128] ++ List.replicate (zerosN n) 0 ++ (be8 (n * 8)).take k
theorem padN_zero (xs : List Int) (n : Nat) : padN xs n 0 = xs ++ [128] ++ List.replicate (zerosN n) 0 := by simp [padN]
theorem padN_len (xs : List Int) (n k : Nat) : (padN xs n k).length = xs.length + 1 + zerosN n + min k 8 := by simp [padN, be8_len]; omega
theorem padN_all (xs : List Int) : padN xs xs.length 8 = padS xs := by
 rw [padN, padS, List.take_of_length_le (by rw [be8_len]; exact Nat.le_refl _)]; simp
theorem padN_succ (xs : List Int) (n k : Nat) (hk : k < 8) {x : Int} (hx : x = (n : Int) * 8 / 2 ^ (56 - 8 * k) % 256) : padN xs n k ++ [x] = padN xs n (k + 1) := by
 subst hx
 rw [padN, padN, List.take_succ_eq_append_getElem (by rw [be8_len]; exact hk), List.append_assoc _ _ [_]]
 simp [be8]
set_option maxHeartbeats 4000000 in
theorem dpadded_any {a : Option Addr} {n c : Nat} {xs : List Int} (w : World) (h : ShI .u8 w a n xs) (hn : n ≤ 100000) :
 Calls Tryz.prog 154 #[.slice a n c] w fun e w' => ∃ v, e = .returned v ∧ OwnB w' w.heap.size v (padS xs) ∧ Below w.heap.size w w' := by
 obtain ⟨i0, hi, hz0, hz1, hz2⟩ := info_parts (P := Tryz.prog) (e := 5) (z := .int .u8 0) (size := 1) (bytes := 1) (by kernel_rfl)
 have HS := Lh h
 have HL := Lh h.len
 clear h
 go_enter Tryz.func154, Tryz.ntmps154
 go_wp2_with fail
 refine (bclone_any _ HS.o hn).mono ?_
 rintro e w1 ⟨v1, rfl, O1, B1⟩
 have HG := Lh (show Grew w w1 w.heap.size v1 xs from ⟨O1, B1, B1.size⟩)
 clear O1 B1
 have HZN := Lh (show -(((n : Int) + 9) % 64) % 64 = ((zerosN n : Nat) : Int) by unfold zerosN; omega)
 have HZM := Lh (show (64 - ((n : Int) + 9) % 64) % 64 = ((zerosN n : Nat) : Int) by unfold zerosN; omega)
 have HMN := Lh (show zerosN n < 64 by unfold zerosN; omega)
 have HAL := Lh (show ∀ ob, w.heap.size ≤ (w1.alloc ob).heap.size from fun ob => Nat.le_trans HG.o.le (by simp))
 have HXM := Lh (show xs.length + 1 ≤ maxLen by have := HL.o; unfold maxLen; omega)
 have HXB := Lh (show (xs.length + 1) * 1 ≤ 140737488355328 by have := HL.o; omega)
 have HZB := Lh (show (xs ++ [(128 : Int)]).length + zerosN n ≤ 1000000 by have := HL.o; have := HMN.o; simp; omega)
 go_wp2_with (first
  | (at_builtin; refine wpList_append_own _ rfl _ _ 80 rfl w.heap.size 5 i0 (.int .u8 0) 1 1 Tryz.underlying80 hi hz0 hz1 hz2 rfl (by decide) _ xs.length (xs.map (Value.int .u8)) rfl (HG.o.own.keep ((Below.refl _ _).alloc (Nat.le_refl _) _)) _ 1 1 [.int .u8 128] rfl rfl (fun j u hj => by cases j with | zero => simp at hj; subst hj; simp [go_sem] | succ j => simp at hj) (fun u hu => by simp at hu; subst hu; rfl) HXM.o HXB.o (HAL.o _) ?_; intro v2 w2 hown hgr hnil; have HG2 := Lh (HG.o.snoc hown hgr); clear hown hgr hnil)
  | (at_builtin; obtain ⟨g, cap, hv, -, -⟩ := HG2.o.own.some (by simp); subst hv; (refine wpL_append_zeros rfl _ _ 80 3 rfl w.heap.size 5 i0 Tryz.underlying80 Tryz.underlying3 hi hz0 hz1 hz2 g _ cap (zerosN n) _ rfl (congrArg (Value.int .i64) HZM.o) HG2.o.own HZB.o HG2.o.le ?_); intro v3 w3 hown hgr; have HG3 := Lh (HG2.o.zeros hown hgr rfl); clear hown hgr)
  | (at_builtin; obtain ⟨g, cap, hv, -, -⟩ := HG2.o.own.some (by simp); subst hv; refine wpL_append_zeros rfl _ _ 80 3 rfl w.heap.size 5 i0 Tryz.underlying80 Tryz.underlying3 hi hz0 hz1 hz2 g _ cap (zerosN n) _ rfl (congrArg (Value.int .i64) HZN.o) HG2.o.own HZB.o HG2.o.le ?_; intro v3 w3 hown hgr; have HG3 := Lh (HG2.o.zeros hown hgr rfl); clear hown hgr))
 go_loopw [4, 5] (fun c4 c5 wr => ∃ k : Nat, k ≤ 8 ∧ c5 = .int .i64 (56 - 8 * (k : Int)) ∧ Hid (Grew w wr w.heap.size c4 (padN xs n k))) (fun _ c5 _ => ((intOf c5) + 8).toNat)
 case atStart => exact ⟨0, by omega, rfl, by rw [padN_zero]; exact HG3.o⟩
 case round =>
  clear HG HG2 HG3 HZN HZM HMN HAL HXM HXB HZB
  obtain ⟨k, hk, rfl, HG⟩ := hrel
  by_cases hlt : k < 8
  case neg =>
   obtain rfl : k = 8 := by omega
   rw [HL.o, padN_all] at HG
   go_wp2_with fail
   go_ret
   exact ⟨_, rfl, HG.o.own, HG.o.bel⟩
  case pos =>
   have hd : decide ((0 : Int) ≤ 56 - 8 * (k : Int)) = true := by simp; omega
   have hd2 : decide (8 * (k : Int) ≤ 56) = true := by simp; omega
   have hws : IntKind.i64.wrap (56 - 8 * (k : Int) - 8) = 56 - 8 * (k : Int) - 8 := IntWalk.i64_in _ (by omega)
   have hpl : (padN xs n k).length ≤ 200000 := by rw [padN_len]; have := HL.o; have : zerosN n < 64 := by unfold zerosN; omega
                                                  omega
   have HAL := Lh (show ∀ ob, w.heap.size ≤ (wr.alloc ob).heap.size from fun ob => Nat.le_trans HG.o.le (by simp))
   have HXM := Lh (show (padN xs n k).length + 1 ≤ maxLen by unfold maxLen; omega)
   have HXB := Lh (show ((padN xs n k).length + 1) * 1 ≤ 140737488355328 by omega)
   clear hpl
   have p0 : (0 : Int) ≤ 56 - 8 * (k : Int) := by omega
   have e0 : (56 - 8 * (k : Int)).toNat = 56 - 8 * k := by omega
   have hm0 : min (56 - 8 * k) 64 = 56 - 8 * k := by omega
   have hwn : IntKind.u64.wrap (n : Int) = n := IntWalk.u64_in _ (by omega)
   have hwm : IntKind.u64.wrap ((n : Int) * 8) = n * 8 := IntWalk.u64_in _ (by omega)
   go_wp2_with (at_builtin; (refine wpList_append_own _ rfl _ _ 80 rfl w.heap.size 5 i0 (.int .u8 0) 1 1 Tryz.underlying80 hi hz0 hz1 hz2 rfl (by decide) _ (padN xs n k).length ((padN xs n k).map (Value.int .u8)) rfl (HG.o.own.keep ((Below.refl _ _).alloc (Nat.le_refl _) _)) _ 1 1 [.int .u8 ((n : Int) * 8 / 2 ^ (56 - 8 * k) % 256)] rfl rfl (fun j u hj => by cases j with | zero => simp at hj; subst hj; simp [go_sem] | succ j => simp at hj) (fun u hu => by simp at hu; subst hu; rfl) HXM.o HXB.o (HAL.o _) ?_); intro v4 w4 hown hgr hnil; have HG4 := Lh (HG.o.snoc hown hgr); clear hown hgr hnil)
   go_roundw
   case rel => exact ⟨k + 1, by omega, by go_num, by rw [← padN_succ xs n k hlt rfl]; exact HG4.o⟩
   case measure => simp [intOf]; omega
end Go.Proofs.YtlbldpkgnonbpaaGreatDoor
/- slices.Chunk over bytes. -/
namespace Go.Proofs.YtlbldpkgnonbpaaGreatDoor
open Go.RowKit Go.Shelf
attribute [local go_sem] Oper.semAt_some
def firstN {α : Type} (f : Nat → α) (k : Nat) : List α := (List.range k).map f
theorem firstN_succ {α : Type} (f : Nat → α) (k : Nat) : firstN f (k + 1) = firstN f k ++ [f k] := by simp [firstN, List.range_succ]
theorem firstN_length {α : Type} (f : Nat → α) (k : Nat) : (firstN f k).length = k := by simp [firstN]
def Kp3 (A B C : Nat) (W W' : World) : Prop := (∀ o, W'.cell? ⟨A, o, none⟩ = W.cell? ⟨A, o, none⟩) ∧ (∀ o, W'.cell? ⟨B, o, none⟩ = W.cell? ⟨B, o, none⟩) ∧ ∀ o, W'.cell? ⟨C, o, none⟩ = W.cell? ⟨C, o, none⟩
theorem Kp3.refl (A B C : Nat) (W : World) : Kp3 A B C W W := ⟨fun _ => rfl, fun _ => rfl, fun _ => rfl⟩
theorem Kp3.trans {A B C : Nat} {W1 W2 W3 : World} (h : Kp3 A B C W1 W2) (k : Kp3 A B C W2 W3) : Kp3 A B C W1 W3 := ⟨fun o => (k.1 o).trans (h.1 o), fun o => (k.2.1 o).trans (h.2.1 o), fun o => (k.2.2 o).trans (h.2.2 o)⟩
theorem Kp3.put {A B C : Nat} {w : World} (hA : A < w.heap.size) (hB : B < w.heap.size) (hC : C < w.heap.size) (W : World) (l : Nat) (o o' : Obj) (hl : w.heap.size ≤ l) (h : W.heap[l]? = some o) (_ : o.isCells = false) (_ : o.isWalk = false) : Kp3 A B C W (W.putObj l o') := by
 have hg := grownBy_putObj' W l o'
 have key : ∀ b, b < w.heap.size → ∀ o, (W.putObj l o').cell? ⟨b, o, none⟩ = W.cell? ⟨b, o, none⟩ := fun b hb o => World.cell?_of_block (hg.block b (by have := (Array.getElem?_eq_some_iff.1 h).1; omega) (fun e => by cases e; omega))
 exact ⟨key A hA, key B hB, key C hC⟩
theorem Kp3.below {A B C : Nat} {W W' : World} (h : Below W.heap.size W W') (hA : A < W.heap.size) (hB : B < W.heap.size) (hC : C < W.heap.size) : Kp3 A B C W W' :=
 ⟨fun o => h.cell (p := ⟨A, o, none⟩) hA, fun o => h.cell (p := ⟨B, o, none⟩) hB, fun o => h.cell (p := ⟨C, o, none⟩) hC⟩
theorem grownBy_drewN (W : World) (k : Nat) : W.grownBy (W.drewN k) none := ⟨rfl, rfl, rfl, Nat.le_refl _, fun _ _ _ => rfl⟩
set_option maxHeartbeats 4000000 in
theorem chunk1_in (n : Nat) (hn : 1 ≤ n) (l Bs Bn b cap m : Nat) (hm : m ≤ 100000) (hcap : 64 * m ≤ cap) {α : Type} (ix : α → Nat) (f : Nat → α) (hf : ∀ k, k < m → ix (f k) = k) (J Jx : List α → World → Prop)
 (hY : ∀ pre x W, J pre W → pre.length < m → YieldAt Fence.wide (n - 1) Tryz.prog l #[.slice (some ⟨b, 64 * ix x, none⟩) 64 64] W fun e W' =>
   (e = .returned (.bool true) ∧ J (pre ++ [x]) W' ∧ Kp3 Bs Bn b W W') ∨ (e = .returned (.bool false) ∧ Jx (pre ++ [x]) W'))
 (hJd : ∀ pre W k, J pre W → J pre (W.drewN k))
 (W : World) (hBs : W.cell? ⟨Bs, 0, none⟩ = some (.slice (some ⟨b, 0, none⟩) (64 * m) cap)) (hBn : W.cell? ⟨Bn, 0, none⟩ = some (.int .i64 64)) (h0 : J [] W) :
 CallsIn Fence.wide n Tryz.prog 164 #[.func (.yield l) #[] #[], .pointer (some ⟨Bs, 0, none⟩), .pointer (some ⟨Bn, 0, none⟩)] W fun e W' => (∃ v, e = .returned v) ∧
  ((∃ ys, ys = firstN f m ∧ J ys W') ∨ (∃ pre, (∃ k, k ≤ m ∧ pre = firstN f k) ∧ Jx pre W')) := by
 refine callsIn_of_wp Tryz.func164 rfl trivial ?_ rfl
 simp only [Tryz.ntmps164, List.size_toArray, List.length_cons, List.length_nil, Nat.reduceAdd, Nat.reduceSub, Array.replicate_succ, Array.replicate_zero, List.push_toArray, List.append_toArray, List.nil_append, List.cons_append]
 gi_wp2
 gi_loopw [4] (fun i wr => ∃ k : Nat, k ≤ m ∧ i = .int .i64 ((64 * k : Nat) : Int) ∧ J (firstN f k) wr ∧ Kp3 Bs Bn b W wr) (fun i _ => 64 * m - (intOf i).toNat)
 case atStart => exact ⟨0, Nat.zero_le _, rfl, h0, Kp3.refl _ _ _ _⟩
 case round =>
  obtain ⟨k, hk, rfl, hJs, hnx⟩ := hrel
  have cs : wr.cell? ⟨Bs, 0, none⟩ = some (.slice (some ⟨b, 0, none⟩) (64 * m) cap) := (hnx.1 0).trans hBs
  have cn : wr.cell? ⟨Bn, 0, none⟩ = some (.int .i64 64) := (hnx.2.1 0).trans hBn
  obtain ⟨i, hi⟩ : ∃ i, 64 * k = i := ⟨_, rfl⟩
  rw [hi]
  by_cases hlt : k < m
  · have i0 : (0 : Int) ≤ (i : Int) := by omega
    have hl1 : (i : Int) < ((64 * m : Nat) : Int) := by omega
    have hl2 : (i : Int) ≤ ((64 * m : Nat) : Int) := by omega
    have hl4 : i < cap := by omega
    have hl3 : (i : Int) + 64 ≤ 64 * (m : Int) := by omega
    have hl5 : i ≤ cap := by omega
    have hl6 : ¬ i = cap := by omega
    have hmin : min (64 : Int) (((64 * m - i : Nat) : Nat) : Int) = 64 := by omega
    have hmin2 : min (64 : Int) (64 * (m : Int) - (i : Int)) = 64 := by omega
    have hwi : IntKind.i64.wrap ((i : Int) + 64) = (i : Int) + 64 := IntWalk.i64_in _ (by omega)
    gi_wp2_with fail
    refine wpIn_wide.2 ?_
    go_quiet (fail)
    obtain ⟨fn, tmps, assign, body, hy, hR⟩ := hY _ (f k) (wr.drewN nq) (hJd _ _ nq hJs) (by rw [firstN_length]; exact hlt)
    rw [hf k hlt, hi] at hy
    gi_wp2
    refine hR.mono ?_
    rintro e W3 (⟨rfl, hJ3, hk3⟩ | ⟨rfl, hJx3⟩)
    · have cn3 : W3.cell? ⟨Bn, 0, none⟩ = some (.int .i64 64) := (hk3.2.1 0).trans cn
      gi_wp2
      go_roundw
      case rel => exact ⟨k + 1, by omega, by go_num, by rw [firstN_succ]; exact hJ3, hnx.trans ((show Kp3 Bs Bn b wr (wr.drewN nq) from ⟨fun _ => rfl, fun _ => rfl, fun _ => rfl⟩).trans hk3)⟩
      case measure => simp [intOf]; omega
    · gi_wp2
      refine bodyPost_ret (results_none rfl _ _ _) rfl ?_
      exact ⟨⟨_, rfl⟩, .inr ⟨_, ⟨k + 1, by omega, (firstN_succ _ _).symm⟩, hJx3⟩⟩
  · obtain rfl : k = m := by omega
    subst hi
    have hl7 : ¬ (((64 * k : Nat) : Int) < 64 * (k : Int)) := by omega
    gi_wp2
    go_end0
    first | exact ⟨⟨_, rfl⟩, .inl hJs⟩ | exact ⟨⟨_, rfl⟩, .inl ⟨_, rfl, hJs⟩⟩
set_option maxHeartbeats 1000000 in
theorem chunk_in (n : Nat) (a : Option Addr) (len cap : Nat) (w : World) :
 CallsIn Fence.wide n Tryz.prog 153 #[.slice a len cap, .int .i64 64] w fun e w' => e = .returned (.func (.func 164) #[] #[.pointer (some ⟨w.heap.size, 0, none⟩), .pointer (some ⟨w.heap.size + 1, 0, none⟩)]) ∧ w' = (w.alloc (.cells #[.slice a len cap] 80)).alloc (.cells #[.int .i64 64] 3) := by
 refine callsIn_of_wp Tryz.func153 rfl trivial ?_ rfl
 simp only [Tryz.ntmps153, List.size_toArray, List.length_cons, List.length_nil, Nat.reduceAdd, Nat.reduceSub, Array.replicate_succ, Array.replicate_zero, List.push_toArray, List.append_toArray, List.nil_append, List.cons_append]
 gi_wp2
 go_ret
 exact ⟨rfl, rfl⟩
theorem chunk_stops (n : Nat) (hn : 1 ≤ n) (Bs Bn b cap m : Nat) (hm : m ≤ 100000) (hcap : 64 * m ≤ cap) {α : Type} (ix : α → Nat) (f : Nat → α) (hf : ∀ k, k < m → ix (f k) = k) (w : World) (hBs : Bs < w.heap.size) (hBn : Bn < w.heap.size) (hb : b < w.heap.size)
 (hc : w.cell? ⟨Bs, 0, none⟩ = some (.slice (some ⟨b, 0, none⟩) (64 * m) cap)) (hc2 : w.cell? ⟨Bn, 0, none⟩ = some (.int .i64 64)) :
 SeqStopsK Fence.wide n Tryz.prog 164 #[.pointer (some ⟨Bs, 0, none⟩), .pointer (some ⟨Bn, 0, none⟩)] (fun x : α => #[Value.slice (some ⟨b, 64 * ix x, none⟩) 64 64]) (Kp3 Bs Bn b) (fun ys => ys = firstN f m) (fun pre => ∃ k, k ≤ m ∧ pre = firstN f k) m w := fun l J Jx W hW hJo _ hY h0 => by
 have hc' := (hW.cell (p := ⟨Bs, 0, none⟩) hBs).trans hc
 have hc2' := (hW.cell (p := ⟨Bn, 0, none⟩) hBn).trans hc2
 refine (chunk1_in n hn l Bs Bn b cap m hm hcap ix f hf J Jx hY (fun pre W k h => hJo pre W (W.drewN k) none h (grownBy_drewN W k) (fun r e => by cases e)) W hc' hc2' h0).mono ?_
 rintro e W' ⟨he, ⟨ys, rfl, hj⟩ | ⟨pre, hk, hj⟩⟩
 · exact ⟨he, .inl ⟨_, rfl, hj⟩⟩
 · exact ⟨he, .inr ⟨_, hk, hj⟩⟩
end Go.Proofs.YtlbldpkgnonbpaaGreatDoor
/- digest.sum, digest.Sum: the digest of bytes. -/
namespace Go.Proofs.YtlbldpkgnonbpaaGreatDoor
open Go Go.RowKit Go.Shelf Sha
attribute [local go_sem] Oper.semAt_some
theorem wpListIn_of {P : Program} {ops : Array Oper} {Q : Exit → Act → World → Prop} {l n : Nat} : ∀ (os : List Oper) (a : Act) (w : World), (∀ o ∈ os, Op.noDefer o.op = true) → wpList P ops (OnlyN Q) os a w → wpListIn (Fence.wide.inRound l) n P ops Q os a w
 | [], _, _, _, h => h
 | o :: rest, a, w, hd, h => by
  simp only [wpList] at h
  unfold wpListIn
  by_cases hw : Region.wanted o (yielded ops a.tmps) = true
  · rw [if_pos hw] at h
    rw [if_pos hw]
    rcases h with h | h
    · exact Oper.wpIn_mono (fun a' w' h' => wpListIn_of rest a' w' (fun x hx => hd x (List.mem_cons_of_mem _ hx)) h') (oper_in (hd o (List.mem_cons_self ..)) h)
    · exact (OnlyN.never h.2).elim
  · rw [if_neg hw] at h
    rw [if_neg hw]
    exact ⟨fun _ _ => trivial, wpListIn_of rest _ _ (fun x hx => hd x (List.mem_cons_of_mem _ hx)) h⟩
theorem OwnB.cap {w : World} {n₀ g n cap : Nat} {xs : List Int} (h : OwnB w n₀ (.slice (Option.some ⟨g, 0, none⟩) n cap) xs) : xs.length ≤ cap := by
 rcases h.2 with ⟨h0, -⟩ | ⟨g', cap', cur, hv, -, -, hc, -⟩
 · cases h0
 · injection hv with _ _ h3
   subst h3
   exact hc
theorem OwnB.at {w : World} {n₀ g cap : Nat} {xs : List Int} (h : OwnB w n₀ (.slice (Option.some ⟨g, 0, none⟩) xs.length cap) xs) (i : Nat) (hi : i < xs.length) : w.cell? ⟨g, i, none⟩ = Option.some (.int .u8 (xs.getD i 0)) := by
 have h2 := World.ownsRow.cellAt h i (by omega)
 rw [h2]
 simp [List.getD_eq_getElem?_getD, hi]
theorem below_from {B n : Nat} {W W' : World} (h : Below n W W') (hn : W.heap.size ≤ n) : KeepsFrom B W W' :=
 ⟨h.size, fun k o _ hk ho => by
  have := (Array.getElem?_eq_some_iff.1 hk).1
  rw [h.block k (by omega)]; exact hk⟩
def outN (s : S8) (i : Nat) : List Int := (outOf s).take (4 * i) ++ List.replicate (32 - 4 * i) 0
theorem outN_all (s : S8) : outN s 8 = outOf s := rfl
theorem outN_len (s : S8) (i : Nat) (hi : i ≤ 8) : (outN s i).length = 32 := by simp [outN, outOf_len]; omega
theorem outN_lo (s : S8) (i o : Nat) (h : o < 4 * i) (hi : i ≤ 8) : (outN s i).getD o 0 = (outOf s).getD o 0 := by
 simp only [outN, List.getD_eq_getElem?_getD, List.getElem?_append, List.length_take, outOf_len]
 rw [if_pos (by omega), List.getElem?_take_of_lt h]
theorem outN_hi (s : S8) (i o : Nat) (h : 4 * i ≤ o) : (outN s i).getD o 0 = 0 := by
 simp only [outN, List.getD_eq_getElem?_getD, List.getElem?_append, List.length_take, outOf_len]
 rw [if_neg (by omega), List.getElem?_replicate]
 split <;> rfl
theorem outOf_at (s : S8) {i t : Nat} (hi : i < 8) (ht : t < 4) : (outOf s).getD (4 * i + t) 0 = [s.l.getD i 0 / 16777216 % 256, s.l.getD i 0 / 65536 % 256, s.l.getD i 0 / 256 % 256, s.l.getD i 0 % 256].getD t 0 := by
 have h1 : i = 0 ∨ i = 1 ∨ i = 2 ∨ i = 3 ∨ i = 4 ∨ i = 5 ∨ i = 6 ∨ i = 7 := by omega
 have h2 : t = 0 ∨ t = 1 ∨ t = 2 ∨ t = 3 := by omega
 rcases h1 with rfl | rfl | rfl | rfl | rfl | rfl | rfl | rfl <;> rcases h2 with rfl | rfl | rfl | rfl <;> rfl
theorem Arr.outs {w w' : World} {b i : Nat} {s : S8} {x : Int} (h : Arr .u8 w b (outN s i)) (hL : Laid .u8 w w' b (4 * i) [x / 16777216 % 256, x / 65536 % 256, x / 256 % 256, x % 256]) (hi : i < 8) (hx : s.l.getD i 0 = x) : Arr .u8 w' b (outN s (i + 1)) := by
 subst hx
 refine ⟨fun o ho => ?_, fun o => (hL.frozen _).trans (h.f o), by rw [hL.size]; exact h.lt⟩
 rw [outN_len s (i + 1) (by omega)] at ho
 by_cases h1 : o < 4 * i
 · rw [outN_lo s (i + 1) o (by omega) (by omega), ← outN_lo s i o h1 (by omega)]
   exact (hL.beside o (.inl h1)).trans (h.c o (by rw [outN_len s i (by omega)]; omega))
 · by_cases h2 : o < 4 * i + 4
   · have h3 := hL.row (o - 4 * i) (by show o - 4 * i < 4; omega)
     rw [show 4 * i + (o - 4 * i) = o by omega, ← outOf_at s hi (by omega), show 4 * i + (o - 4 * i) = o by omega] at h3
     rw [outN_lo s (i + 1) o (by omega) (by omega)]
     exact h3
   · rw [outN_hi s (i + 1) o (by omega), ← outN_hi s i o (by omega)]
     exact (hL.beside o (.inr (by show 4 * i + 4 ≤ o; omega))).trans (h.c o (by rw [outN_len s i (by omega)]; omega))
theorem wpL_copyArr {P : Program} {w : World} {o : Oper} {ops : Array Oper} {rest : List Oper} {a : Act} {Q : Exit → Act → World → Prop} (hgd : o.guard = none) (d s : Operand) (dT sT : TypeId)
 (ho : o.op = .call { callee := .builtin .copy, args := #[d, s], argTypes := #[dT, sT] }) (elem : TypeId) (hu : P.underlying dT = some (.slice elem)) (hsz : (P.info? elem).map (·.size) = some 1)
 (k : IntKind) (b c q q' dLen dCap sLen sCap : Nat) (hd : a.eval d = .slice (some ⟨b, q, none⟩) dLen dCap) (hs : a.eval s = .slice (some ⟨c, q', none⟩) sLen sCap)
 (xs : List Int) (hn : xs.length = Nat.min sLen dLen) (hsrc : ∀ i, i < xs.length → w.cell? ⟨c, q' + i, none⟩ = some (.int k (xs.getD i 0)))
 (hc : ∀ i, i < xs.length → (w.cell? ⟨b, q + i, none⟩).isSome = true) (hf : ∀ i, i < xs.length → w.frozen? ⟨b, q + i, none⟩ = false)
 (h : ∀ w', Laid k w w' b q xs → wpList P ops Q rest (a.put o.dst (goInt xs.length)) w') : wpList P ops Q (o :: rest) a w :=
 wpList_plain hgd fun _ hK => wp_copyArr d s dT sT ho elem hu hsz k b c q q' dLen dCap sLen sCap hd hs xs hn hsrc hc hf fun w' hw => hK _ _ (h w' hw)
abbrev Chk (m : Nat) := { x : Nat // x < m }
def chkOf {m : Nat} (hm : 0 < m) (k : Nat) : Chk m := ⟨k % m, Nat.mod_lt _ hm⟩
theorem chkOf_val {m : Nat} (hm : 0 < m) {k : Nat} (hk : k < m) : (chkOf hm k).1 = k := Nat.mod_eq_of_lt hk
def stAll {m : Nat} (p : List Int) (pre : List (Chk m)) : S8 := pre.foldl (fun s x => stepS p (64 * x.1) s) firstS
theorem stAll_push {m : Nat} (p : List Int) (pre : List (Chk m)) (x : Chk m) : stAll p (pre ++ [x]) = stepS p (64 * x.1) (stAll p pre) := by simp [stAll]
theorem stAll_firstN {m : Nat} (p : List Int) (hm : 0 < m) : ∀ k, k ≤ m → stAll p (firstN (chkOf hm) k) = blocks p k
 | 0, _ => rfl
 | k + 1, hk => by rw [firstN_succ, stAll_push, stAll_firstN p hm k (by omega), chkOf_val hm (by omega)]; rfl
structure SumIn (W : World) (Bo Bt g : Nat) (st : List Int) (p : List Int) : Prop where
 fo : Arr .u8 W Bo (List.replicate 32 0)
 ft : Arr .u32 W Bt st
 fp : ∀ i, i < p.length → W.cell? ⟨g, i, none⟩ = some (.int .u8 (p.getD i 0))
 lt : g < W.heap.size
theorem SumIn.keep {W W' : World} {Bo Bt g : Nat} {st p : List Int} (h : SumIn W Bo Bt g st p) (hb : Below W.heap.size W W') : SumIn W' Bo Bt g st p :=
 ⟨h.fo.keep hb, h.ft.keep hb, fun i hi => (hb.cell (p := ⟨g, i, none⟩) h.lt).trans (h.fp i hi), Nat.lt_of_lt_of_le h.lt hb.size⟩
theorem Arr.below {k : IntKind} {w w' : World} {b n : Nat} {xs : List Int} (h : Arr k w b xs) (hb : Below n w w') (hn : b < n) : Arr k w' b xs :=
 ⟨fun i hi => (hb.cell (p := ⟨b, i, none⟩) hn).trans (h.c i hi), fun i => (hb.frozen (p := ⟨b, i, none⟩) hn).trans (h.f i), Nat.lt_of_lt_of_le h.lt hb.size⟩
theorem SumIn.below {W W' : World} {Bo Bt g n : Nat} {st p : List Int} (h : SumIn W Bo Bt g st p) (hb : Below n W W') (h1 : Bo < n) (h2 : Bt < n) (h3 : g < n) : SumIn W' Bo Bt g st p :=
 ⟨h.fo.below hb h1, h.ft.below hb h2, fun i hi => (hb.cell (p := ⟨g, i, none⟩) h3).trans (h.fp i hi), Nat.lt_of_lt_of_le h.lt hb.size⟩
theorem SumIn.laid {W W' : World} {Bo Bt g : Nat} {st ys p : List Int} (h : SumIn W Bo Bt g st p) (hL : Laid .u32 W W' Bt 0 ys) (h1 : Bo ≠ Bt) (h2 : g ≠ Bt) : SumIn W' Bo Bt g ys p :=
 ⟨h.fo.laid hL h1, h.ft.whole hL, fun i hi => (hL.cell _ _ h2).trans (h.fp i hi), by rw [hL.size]; exact h.lt⟩
theorem SumIn.blk {W : World} {Bo Bt g : Nat} {st p : List Int} (h : SumIn W Bo Bt g st p) (hp : ∀ i, 0 ≤ p.getD i 0 ∧ p.getD i 0 < 256) {x : Nat} (hx : 64 * x + 64 ≤ p.length) : Blk W g (64 * x) p (64 * x) :=
 ⟨fun i hi => h.fp _ (by omega), h.lt, hp⟩
theorem Tabs.keep {w w' : World} (h : Tabs w) {n : Nat} (hb : Below n w w') (hn : w.heap.size ≤ n) : Tabs w' := h.below (hb.mono hn)
def ByteL (xs : List Int) : Prop := ∀ x, x ∈ xs → 0 ≤ x ∧ x < 256
theorem ByteL.get {xs : List Int} (h : ByteL xs) (i : Nat) : 0 ≤ xs.getD i 0 ∧ xs.getD i 0 < 256 := by
 by_cases hi : i < xs.length
 · rw [List.getD_eq_getElem?_getD, List.getElem?_eq_getElem hi]; exact h _ (List.getElem_mem hi)
 · rw [List.getD_eq_getElem?_getD, List.getElem?_eq_none (by omega)]; simp
theorem padS_bytes {xs : List Int} (h : ByteL xs) : ByteL (padS xs) := by
 intro x hx
 simp only [padS, List.mem_append, List.mem_cons, List.mem_replicate, be8, List.mem_map] at hx
 rcases hx with hx | rfl | ⟨-, rfl⟩ | ⟨i, -, rfl⟩
 · exact h x hx
 · omega
 · omega
 · omega
set_option maxHeartbeats 8000000 in
theorem dsum_any {a : Option Addr} {n c : Nat} {xs : List Int} (w : World) (hT : Tabs w) (h : ShI .u8 w a n xs) (hn : n ≤ 100000) (hB : ByteL xs) :
 Calls Tryz.prog 139 #[.slice a n c] w fun e w' => e = .returned (.agg (valV .u8 (shaS xs))) ∧ Below w.heap.size w w' := by
 have HT := Lh hT
 have HS := Lh h
 have HL := Lh h.len
 have HBY := Lh (padS_bytes hB).get
 clear h hT hB
 refine (callsIn_wide (n := 6)).1 ?_
 refine callsIn_of_wp_marks Tryz.func139 rfl trivial ?_ rfl
 simp only [Tryz.ntmps139, List.size_toArray, List.length_cons, List.length_nil, Nat.reduceAdd, Nat.reduceSub, Array.replicate_succ, Array.replicate_zero, List.push_toArray, List.append_toArray, List.nil_append, List.cons_append]
 refine wpIn_wide.2 ?_
 go_wp2_with (first
  | (refine wpL_allocArr rfl 26 .u8 32 rfl (by kernel_rfl) ?_; intro w1 h1; have F_o := Lh h1.arr; have HB1 := Lh (h1.below _ (Nat.le_refl _)); clear h1; simp only [sY])
  | (refine wpList_loadArr rfl 191 _ rfl .u32 0 0 firstS.l 8 108 rfl Tryz.underlying191 (by kernel_rfl) (fun i hi => by rw [Nat.zero_add]; exact (HT.o.below HB1.o).f i hi) ?_; simp only [sY])
  | (refine wpL_allocArr rfl 191 .u32 8 rfl (by kernel_rfl) ?_; intro w2 h2; have ne_o_t := Nat.ne_of_lt F_o.o.lt; have le_t := HB1.o.size; replace F_o := Lh (F_o.o.keep (h2.below _ (Nat.le_refl _))); have F_t := Lh h2.arr; have HB2 := Lh (HB1.o.trans (h2.below _ HB1.o.size)); clear h2; simp only [sY])
  | (refine wpL_storeArr rfl 191 .u32 _ _ _ firstS.l _ rfl rfl rfl rfl (by kernel_rfl) F_t.o rfl ?_; intro w3 h3; replace F_o := Lh (F_o.o.laid h3 ne_o_t); replace F_t := Lh (F_t.o.whole h3); have HB3 := Lh (HB2.o.trans (h3.below _ le_t)); clear h3))
 refine (dpadded_any _ (HS.o.keep HB3.o) hn).mono ?_
 rintro e w4 ⟨v, rfl, O4, B4⟩
 obtain ⟨g, cap, rfl, hg1, hg2⟩ := O4.some (by rw [padS_len]; omega)
 obtain ⟨m, hm⟩ : ∃ m, (padS xs).length = 64 * m := ⟨(padS xs).length / 64, by have := padS_mod xs; omega⟩
 have hm0 : 0 < m := by rw [padS_len] at hm; omega
 have hm1 : m ≤ 100000 := by have := HL.o; have hz : zerosN xs.length < 64 := by unfold zerosN; omega
                             rw [padS_len] at hm; omega
 have hcap := O4.cap
 rw [hm] at hcap
 have ne_t_g : g ≠ w1.heap.size := by have := F_t.o.lt; omega
 have hgw : w.heap.size ≤ g := Nat.le_trans HB3.o.size hg1
 have SI := Lh (show SumIn w4 w.heap.size w1.heap.size g firstS.l (padS xs) from
  ⟨F_o.o.keep B4, F_t.o.keep B4, fun i hi => O4.at i hi, hg2⟩)
 have HB4 := Lh (HB3.o.trans (B4.mono HB3.o.size))
 have HM := Lh hm
 rw [hm]
 clear O4 B4 F_o F_t HB1 HB2 HB3 hm
 go_wp2_with fail
 refine (callsIn_wide.1 (chunk_in 1 _ _ _ _)).mono ?_
 rintro e w5 ⟨rfl, rfl⟩
 go_wp2_with fail
 have hW4 := SI.o.lt
 have ht4 := SI.o.ft.lt
 have ho4 := SI.o.fo.lt
 obtain ⟨W0, hW0⟩ : ∃ W0, (w4.alloc (.cells #[.slice (some ⟨g, 0, none⟩) (64 * m) cap] 80)).alloc (.cells #[.int .i64 64] 3) = W0 := ⟨_, rfl⟩
 have hB0 : Below w4.heap.size w4 W0 := by rw [← hW0]; exact ((Below.refl _ _).alloc (Nat.le_refl _) _).alloc (by simp) _
 have hsz : W0.heap.size = w4.heap.size + 2 := by rw [← hW0]; simp
 have cBs : W0.cell? ⟨w4.heap.size, 0, none⟩ = some (.slice (some ⟨g, 0, none⟩) (64 * m) cap) := by
  rw [← hW0, World.cell?_alloc_past _ _ _ (by simp), World.cell?_alloc_new]; rfl
 have cBn : W0.cell? ⟨w4.heap.size + 1, 0, none⟩ = some (.int .i64 64) := by
  rw [← hW0, World.cell?_alloc_at _ _ _ _ (by simp)]; rfl
 rw [hW0]
 replace SI := Lh (SI.o.keep hB0)
 replace HB4 := Lh (HB4.o.trans (hB0.mono HB4.o.size))
 have HOW : ∀ (pre : List (Chk m)) (A B : World) row, (SumIn A w.heap.size w1.heap.size g (stAll (padS xs) pre).l (padS xs) ∧ W0.heap.size ≤ A.heap.size ∧ Below w.heap.size w A) → A.grownBy B row → (∀ r, row = some r → W0.heap.size ≤ r ∧ ∃ o : Obj, A.heap[r]? = some o ∧ o.isCells = false) →
  (SumIn B w.heap.size w1.heap.size g (stAll (padS xs) pre).l (padS xs) ∧ W0.heap.size ≤ B.heap.size ∧ Below w.heap.size w B) := fun pre A B row hs hg hr => by
  have hb : Below W0.heap.size A B := (Below.refl _ _).grown hg hs.2.1 (fun k e => (hr k e).1)
  exact ⟨hs.1.below hb (by omega) (by omega) (by omega), Nat.le_trans hs.2.1 hg.size, hs.2.2.trans (hb.mono (by omega))⟩
 refine (wpIn_wide (n := 6)).1 ?_
 refine wpIn_rangeFunc_ownG rfl (by omega) (gf := 164) (lb := #[.pointer (some ⟨w4.heap.size, 0, none⟩), .pointer (some ⟨w4.heap.size + 1, 0, none⟩)]) rfl trivial (enters_of Tryz.func164 (by kernel_rfl) rfl)
  (chunk_stops (6 - 1) (by omega) w4.heap.size (w4.heap.size + 1) g cap m hm1 hcap (fun x : Chk m => x.1) (chkOf hm0) (fun k hk => chkOf_val hm0 hk) W0 (by omega) (by omega) (by omega) cBs cBn)
  (fun h k => Kp3.trans h k) (fun W l o o' hl h a b => Kp3.put (w := W0) (by omega) (by omega) (by omega) W l o o' hl h a b) (Below.refl _ _) (fun _ => rfl)
  (fun pre W => SumIn W w.heap.size w1.heap.size g (stAll (padS xs) pre).l (padS xs) ∧ W0.heap.size ≤ W.heap.size ∧ Below w.heap.size w W)
  (fun _ _ _ => False)
  HOW
  (fun _ _ _ _ _ hs _ _ => hs)
  ⟨SI.o, Nat.le_refl _, HB4.o⟩
  (fun x => { tmps := #[.slice a n c, undef, .pointer (some ⟨w.heap.size, 0, none⟩), .pointer (some ⟨w1.heap.size, 0, none⟩), .slice (some ⟨g, 64 * x.1, none⟩) 64 64, undef, undef, .agg (valV .u32 firstS.l), .slice a n c, .slice (some ⟨g, 0, none⟩) (64 * m) cap, .func (.func 164) #[] #[.pointer (some ⟨w4.heap.size, 0, none⟩), .pointer (some ⟨w4.heap.size + 1, 0, none⟩)], .slice (some ⟨g, 64 * x.1, none⟩) 64 64, undef, undef, undef, undef, undef, undef, undef, undef, undef, undef, undef, undef, undef, undef, undef, undef, undef, undef, undef, undef, undef, undef, undef, undef, undef, undef], defers := [] }) ?assign ?body ?done ?stop
 case assign =>
  intro l x W K hK
  gi_wp2
  exact hK
 case stop =>
  rintro D c pre W _ _ h _
  exact h.elim
 case body =>
  rintro l pre ⟨x, hx⟩ W ⟨hSI, hsW, hB⟩ hl
  have HS1 := Lh hSI
  have HBW := Lh hB
  have HTW := Lh (HT.o.below hB)
  have HXL := Lh (show 64 * x + 64 ≤ (padS xs).length by rw [HM.o]; omega)
  clear hSI hB
  obtain ⟨st, hst⟩ : ∃ s, stAll (padS xs) pre = s := ⟨_, rfl⟩
  rw [hst] at HS1
  have HST := Lh hst
  clear hst
  gi_wp2_with (refine wpListIn_of _ _ _ (List.all_eq_true.1 (by kernel_rfl)) ?_)
  go_wp2_with (first
   | (refine wpL_loadArr rfl 191 .u32 _ w1.heap.size _ 8 108 rfl rfl Tryz.underlying191 (by kernel_rfl) HS1.o.ft ?_; simp only [sY])
   | (go_at_call 155; refine (dstep_any (q := 64 * x) (p := padS xs) (s := st) _ HTW.o (HS1.o.blk HBY.o HXL.o) (Nat.le_refl _)).mono ?_; rintro e w7 ⟨rfl, hb7⟩; have HS7 := Lh (HS1.o.keep hb7); have HB7 := Lh hb7; clear hb7)
   | (refine wpL_storeArr rfl 191 .u32 _ _ _ (stepS (padS xs) (64 * x) st).l _ rfl rfl rfl rfl (by kernel_rfl) HS7.o.ft rfl ?_; intro w8 h8; have HL8 := Lh h8; clear h8))
  unfold OnlyN
  gi_wp2
  have hzW := HB7.o.size
  have hneo : w.heap.size ≠ w1.heap.size := ne_o_t
  have k8 := HL8.o.cell
  refine ⟨(below_from HB7.o (Nat.le_refl _)).trans (HL8.o.oth.from _), (Kp3.below HB7.o (by omega) (by omega) (by omega)).trans ⟨fun o => k8 _ _ (by omega), fun o => k8 _ _ (by omega), fun o => k8 _ _ (by omega)⟩, ?_, by rw [HL8.o.size]; omega, (HBW.o.trans (HB7.o.mono (by omega))).trans (HL8.o.below _ le_t)⟩
  rw [stAll_push, HST.o]
  exact HS7.o.laid HL8.o ne_o_t ne_t_g
 case done =>
  rintro D ys W hD rfl ⟨hSI, hsW, hB⟩ hK
  rw [stAll_firstN _ hm0 m (Nat.le_refl _)] at hSI
  obtain ⟨s, hs⟩ : ∃ s, blocks (padS xs) m = s := ⟨_, rfl⟩
  rw [hs] at hSI
  have HZ := Lh (show outOf s = shaS xs by rw [shaS, HM.o, Nat.mul_div_cancel_left m (by decide), hs])
  clear hs
  have F_t := Lh hSI.ft
  have F_o := Lh (show Arr .u8 W w.heap.size (outN s 0) from hSI.fo)
  have HBW := Lh hB
  have HD := Lh hD
  have HK := Lh hK
  clear hSI hB hD hK
  go_wp2_with (refine wpL_loadArr rfl 191 .u32 _ w1.heap.size _ 8 108 rfl rfl Tryz.underlying191 (by kernel_rfl) F_t.o ?_; simp only [sY])
  go_loopw [16] (fun c16 wr => ∃ i : Nat, i ≤ 8 ∧ c16 = .int .i64 i ∧ Hid (Arr .u8 wr w.heap.size (outN s i)) ∧ Hid (Below w.heap.size w wr) ∧ Hid (wr.heap[D]? = some (.deferred (some [])))) (fun c16 _ => 8 - (intOf c16).toNat)
  case atStart => exact ⟨0, by omega, rfl, F_o.o, HBW.o, HK.o⟩
  case round =>
   clear F_o F_t HBW HK
   obtain ⟨i, hi, rfl, F_o, HBW, HK⟩ := hrel
   by_cases hlt : i < 8
   case pos =>
    have hd : decide ((i : Int) < 8) = true := by simp; omega
    have i0 : (0 : Int) ≤ (i : Int) := by omega
    obtain ⟨x, hx⟩ : ∃ x, s.l.getD i 0 = x := ⟨_, rfl⟩
    have hix : ∀ (wr : World), (Instr.index 191 (.agg (valV .u32 s.l)) (.int .i64 i)).run Tryz.prog wr = .ok (.int .u32 x) wr := fun wr => by
     have : i = 0 ∨ i = 1 ∨ i = 2 ∨ i = 3 ∨ i = 4 ∨ i = 5 ∨ i = 6 ∨ i = 7 := by omega
     subst hx
     rcases this with rfl | rfl | rfl | rfl | rfl | rfl | rfl | rfl <;> rfl
    have hw4 : IntKind.i64.wrap (4 * (i : Int)) = 4 * (i : Int) := IntWalk.i64_in _ (by omega)
    have e4 : (4 * (i : Int)).toNat = 4 * i := by omega
    have p4 : (0 : Int) ≤ 4 * (i : Int) := by omega
    have l4 : 4 * (i : Int) ≤ 32 := by omega
    have l4n : 4 * i ≤ 32 := by omega
    have l4m : ¬ 4 * i = 32 := by omega
    have l4k : 4 * i < 32 := by omega
    have hw1 : IntKind.i64.wrap ((i : Int) + 1) = (i : Int) + 1 := IntWalk.i64_in _ (by omega)
    have hmn : min 4 (32 - 4 * i) = 4 := by omega
    have HCN := Lh (show ∀ ob j, j < 4 → ((wr.alloc ob).cell? ⟨w.heap.size, 4 * i + j, none⟩).isSome = true from fun ob j hj => by
     rw [(F_o.o.alloc ob).c (4 * i + j) (by rw [outN_len s i hi]; omega)]; rfl)
    have HFN := Lh (show ∀ ob j, j < 4 → (wr.alloc ob).frozen? ⟨w.heap.size, 4 * i + j, none⟩ = false from fun ob j _ => (F_o.o.alloc ob).f _)
    have HMN := Lh (show [x / 16777216 % 256, x / 65536 % 256, x / 256 % 256, x % 256].length = Nat.min 4 (32 - 4 * i) by show 4 = min 4 (32 - 4 * i); omega)
    have HSR := Lh (show ∀ j, j < 4 → (wr.alloc (.cells (valV .u8 [x / 16777216 % 256, x / 65536 % 256, x / 256 % 256, x % 256]) 5)).cell? ⟨wr.heap.size, 0 + j, none⟩ = some (.int .u8 ([x / 16777216 % 256, x / 65536 % 256, x / 256 % 256, x % 256].getD j 0)) from fun j hj => by
     rw [Nat.zero_add]; exact (Arr.new .u8 wr _ _ _ rfl).c j hj)
    go_wp2_with (refine wpL_copyArr rfl _ _ 80 80 rfl 5 Tryz.underlying80 (by kernel_rfl) .u8 w.heap.size wr.heap.size (4 * i) 0 (32 - 4 * i) (32 - 4 * i) 4 4 rfl rfl [x / 16777216 % 256, x / 65536 % 256, x / 256 % 256, x % 256] HMN.o HSR.o (HCN.o _) (HFN.o _) ?_; intro w9 h9; have H9 := Lh h9; clear h9; simp only [sY])
    go_roundw
    case rel =>
     refine ⟨i + 1, by omega, by go_num, Arr.outs (F_o.o.alloc _) H9.o hlt hx, (HBW.o.alloc HBW.o.size _).trans (H9.o.below _ (Nat.le_refl _)), ?_⟩
     exact H9.o.oth.same D _ ((Below.heap_alloc _ _ _ ((Array.getElem?_eq_some_iff.1 HK.o).1)).trans HK.o) rfl
    case measure => simp [intOf]; omega
   case neg =>
    obtain rfl : i = 8 := by omega
    rw [outN_all, HZ.o] at F_o
    go_wp2_with (first
     | (refine wpL_loadArr rfl 26 .u8 _ w.heap.size _ 32 5 rfl rfl Tryz.underlying26 (by kernel_rfl) F_o.o ?_; simp only [sY])
     | (refine wpL_storeArr rfl 26 .u8 _ _ w.heap.size (shaS xs) _ rfl rfl rfl rfl (by kernel_rfl) F_o.o rfl ?_; intro w9 h9; have H9 := Lh h9; clear h9))
    have HK9 := Lh (H9.o.oth.same D _ HK.o rfl)
    have hBD := belowK_b (w := W0) (Nat.le_refl _) w9 D (.deferred (some [])) (.deferred none) HD.o HK9.o rfl rfl
    refine ⟨by simp, .inl ⟨_, _, rfl, run_takeDeferred HK9.o, ?_⟩⟩
    exact ⟨_, res_arr .u8 w.heap.size 0 (shaS xs) 32 5 rfl Tryz.underlying26 (by kernel_rfl) _ rfl (fun i hi => by rw [Nat.zero_add]; exact ((F_o.o.whole H9.o).below hBD (by omega)).c i hi), rfl, (HBW.o.trans (H9.o.below _ (Nat.le_refl _))).trans (hBD.mono (by omega))⟩
end Go.Proofs.YtlbldpkgnonbpaaGreatDoor
/- digest.Sum; the reference's First, k, Padded. -/
namespace Go.Proofs.YtlbldpkgnonbpaaGreatDoor
open Go Go.RowKit Sha
set_option maxHeartbeats 4000000 in
theorem dSum_any {a : Option Addr} {n c : Nat} {xs : List Int} (w : World) (hT : Tabs w) (h : ShI .u8 w a n xs) (hn : n ≤ 8192) (hB : ByteL xs) :
 Calls Tryz.prog 119 #[.slice a n c] w fun e w' => e = .returned (.tuple #[.agg (valV .u8 (shaS xs)), .int .i64 0]) ∧ Below w.heap.size w w' := by
 have HT := Lh hT
 have HS := Lh h
 have HBY := Lh hB
 have hd : decide ((8192 : Int) < (n : Int)) = false := by simp; omega
 clear h hT hB
 go_enter Tryz.func119, Tryz.ntmps119
 go_wp2_with (first
  | (refine wpL_allocArr rfl 26 .u8 32 rfl (by kernel_rfl) ?_; intro w1 h1; have F_o := Lh h1.arr; have HB1 := Lh (h1.below _ (Nat.le_refl _)); clear h1; simp only [sY])
  | (go_at_call 139; refine (dsum_any _ (HT.o.below HB1.o) (HS.o.keep HB1.o) (by omega) HBY.o).mono ?_; rintro e w2 ⟨rfl, hb2⟩; have F_2 := Lh (F_o.o.keep hb2); have HB2 := Lh (HB1.o.trans (hb2.mono HB1.o.size)); clear hb2)
  | (refine wpL_storeArr rfl 26 .u8 _ _ w.heap.size (shaS xs) _ rfl rfl rfl rfl (by kernel_rfl) F_2.o rfl ?_; intro w9 h9; have H9 := Lh h9; clear h9))
 refine bodyPost_ret (res_arr2 .u8 w.heap.size 0 (shaS xs) 32 5 rfl Tryz.underlying26 (by kernel_rfl) _ rfl rfl H9.o.row) rfl ?_
 exact ⟨rfl, HB2.o.trans (H9.o.below _ (Nat.le_refl _))⟩
set_option maxHeartbeats 4000000 in
theorem rFirst_any (w : World) :
 Calls Tryz.prog 140 #[] w fun e w' => e = .returned (.agg (valV .u32 firstS.l)) ∧ Below w.heap.size w w' := by
 have hbu : ∀ w : World, (Instr.build 191 #[(0, .int .u32 1779033703), (1, .int .u32 3144134277), (2, .int .u32 1013904242), (3, .int .u32 2773480762), (4, .int .u32 1359893119), (5, .int .u32 2600822924), (6, .int .u32 528734635), (7, .int .u32 1541459225)]).run Tryz.prog w = .ok (.agg (valV .u32 firstS.l)) w := fun w => by kernel_rfl
 go_enter Tryz.func140, Tryz.ntmps140
 go_wp2_with (first
  | (refine wpL_allocArr rfl 191 .u32 8 rfl (by kernel_rfl) ?_; intro w1 h1; have F_o := Lh h1.arr; have HB1 := Lh (h1.below _ (Nat.le_refl _)); clear h1; simp only [sY])
  | (refine wpL_storeArr rfl 191 .u32 _ _ w.heap.size firstS.l _ rfl rfl rfl rfl (by kernel_rfl) F_o.o rfl ?_; intro w9 h9; have H9 := Lh h9; clear h9))
 refine bodyPost_ret (res_arr .u32 w.heap.size 0 firstS.l 8 108 rfl Tryz.underlying191 (by kernel_rfl) _ rfl H9.o.row) rfl ?_
 exact ⟨rfl, HB1.o.trans (H9.o.below _ (Nat.le_refl _))⟩
set_option maxHeartbeats 4000000 in
theorem rK_any (w : World) :
 Calls Tryz.prog 158 #[] w fun e w' => e = .returned (.agg (valV .u32 kTab)) ∧ Below w.heap.size w w' := by
 have hbu : ∀ w : World, (Instr.build 209 #[(0, .int .u32 1116352408), (1, .int .u32 1899447441), (2, .int .u32 3049323471), (3, .int .u32 3921009573), (4, .int .u32 961987163), (5, .int .u32 1508970993), (6, .int .u32 2453635748), (7, .int .u32 2870763221), (8, .int .u32 3624381080), (9, .int .u32 310598401), (10, .int .u32 607225278), (11, .int .u32 1426881987), (12, .int .u32 1925078388), (13, .int .u32 2162078206), (14, .int .u32 2614888103), (15, .int .u32 3248222580), (16, .int .u32 3835390401), (17, .int .u32 4022224774), (18, .int .u32 264347078), (19, .int .u32 604807628), (20, .int .u32 770255983), (21, .int .u32 1249150122), (22, .int .u32 1555081692), (23, .int .u32 1996064986), (24, .int .u32 2554220882), (25, .int .u32 2821834349), (26, .int .u32 2952996808), (27, .int .u32 3210313671), (28, .int .u32 3336571891), (29, .int .u32 3584528711), (30, .int .u32 113926993), (31, .int .u32 338241895), (32, .int .u32 666307205), (33, .int .u32 773529912), (34, .int .u32 1294757372), (35, .int .u32 1396182291), (36, .int .u32 1695183700), (37, .int .u32 1986661051), (38, .int .u32 2177026350), (39, .int .u32 2456956037), (40, .int .u32 2730485921), (41, .int .u32 2820302411), (42, .int .u32 3259730800), (43, .int .u32 3345764771), (44, .int .u32 3516065817), (45, .int .u32 3600352804), (46, .int .u32 4094571909), (47, .int .u32 275423344), (48, .int .u32 430227734), (49, .int .u32 506948616), (50, .int .u32 659060556), (51, .int .u32 883997877), (52, .int .u32 958139571), (53, .int .u32 1322822218), (54, .int .u32 1537002063), (55, .int .u32 1747873779), (56, .int .u32 1955562222), (57, .int .u32 2024104815), (58, .int .u32 2227730452), (59, .int .u32 2361852424), (60, .int .u32 2428436474), (61, .int .u32 2756734187), (62, .int .u32 3204031479), (63, .int .u32 3329325298)]).run Tryz.prog w = .ok (.agg (valV .u32 kTab)) w := fun w => by kernel_rfl
 go_enter Tryz.func158, Tryz.ntmps158
 go_wp2_with (first
  | (refine wpL_allocArr rfl 209 .u32 64 rfl (by kernel_rfl) ?_; intro w1 h1; have F_o := Lh h1.arr; have HB1 := Lh (h1.below _ (Nat.le_refl _)); clear h1; simp only [sY])
  | (refine wpL_storeArr rfl 209 .u32 _ _ w.heap.size kTab _ rfl rfl rfl rfl (by kernel_rfl) F_o.o rfl ?_; intro w9 h9; have H9 := Lh h9; clear h9))
 refine bodyPost_ret (res_arr .u32 w.heap.size 0 kTab 64 108 rfl Tryz.underlying209 (by kernel_rfl) _ rfl H9.o.row) rfl ?_
 exact ⟨rfl, HB1.o.trans (H9.o.below _ (Nat.le_refl _))⟩
def lenV : Value → Nat
 | .slice _ n _ => n
 | _ => 0
theorem zeros_test (n j : Nat) (hj : j ≤ zerosN n) : ((n + 1 + j + 8) % 64 = 0) ↔ j = zerosN n := by unfold zerosN at *; omega
theorem rep_snoc (xs : List Int) (j : Nat) : xs ++ [128] ++ List.replicate j (0 : Int) ++ [0] = xs ++ [128] ++ List.replicate (j + 1) 0 := by
 rw [List.replicate_succ', List.append_assoc _ _ [(0 : Int)]]
set_option maxHeartbeats 8000000 in
theorem rPadded_any {ad : Addr} {n c : Nat} {xs : List Int} (w : World) (h : ShI .u8 w (some ad) n xs) (hn : n ≤ 100000) :
 Calls Tryz.prog 141 #[.slice (some ad) n c] w fun e w' => ∃ v, e = .returned v ∧ OwnB w' w.heap.size v (padS xs) ∧ Below w.heap.size w w' := by
 obtain ⟨i0, hi, hz0, hz1, hz2⟩ := info_parts (P := Tryz.prog) (e := 5) (z := .int .u8 0) (size := 1) (bytes := 1) (by kernel_rfl)
 have HS := Lh h
 have HL := Lh h.len
 have HLM := Lh (show (xs.map (Value.int IntKind.u8)).length = n * 1 by rw [List.length_map, ← h.len, Nat.mul_one])
 have HNM := Lh (show 0 + n ≤ maxLen by unfold maxLen; omega)
 have HNB := Lh (show (0 + n) * 1 ≤ 140737488355328 by omega)
 have HXM := Lh (show xs.length + 1 ≤ maxLen by have := h.len; unfold maxLen; omega)
 have HXB := Lh (show (xs.length + 1) * 1 ≤ 140737488355328 by have := h.len; omega)
 clear h
 go_enter Tryz.func141, Tryz.ntmps141
 go_wp2_with (first
  | (at_builtin; refine wpList_append_own _ rfl _ _ 80 rfl w.heap.size 5 i0 (.int .u8 0) 1 1 Tryz.underlying80 hi hz0 hz1 hz2 rfl (by decide) _ 0 [] rfl (World.ownsRow_lit w #[] 0 (Nat.le_refl _) (by decide) rfl) _ n c (xs.map (Value.int IntKind.u8)) rfl HLM.o (HS.o.keep ((Below.refl _ _).alloc (Nat.le_refl _) _)).cells (fun u hu => by obtain ⟨x, -, rfl⟩ := List.mem_map.1 hu; rfl) HNM.o HNB.o (by simp) ?_; intro v1 w1 hown hgr hnil; have HG := Lh (Grew.first HL.o hown hgr); clear hown hgr hnil)
  | (at_builtin; refine wpList_append_own _ rfl _ _ 80 rfl w.heap.size 5 i0 (.int .u8 0) 1 1 Tryz.underlying80 hi hz0 hz1 hz2 rfl (by decide) _ (xs).length ((xs).map (Value.int .u8)) rfl (HG.o.own.keep ((Below.refl _ _).alloc (Nat.le_refl _) _)) _ 1 1 [.int .u8 (128)] rfl rfl (fun j u hj => by cases j with | zero => simp at hj; subst hj; simp [go_sem] | succ j => simp at hj) (fun u hu => by simp at hu; subst hu; rfl) HXM.o HXB.o (HG.o.leA _) ?_; intro v2 w2 hown hgr hnil; have HG2 := Lh (HG.o.snoc hown hgr); clear hown hgr hnil))
 go_loopw [3] (fun c3 wr => ∃ j : Nat, j ≤ zerosN n ∧ Hid (Grew w wr w.heap.size c3 (xs ++ [128] ++ List.replicate j 0))) (fun c3 _ => n + 1 + zerosN n - lenV c3)
 case atStart => exact ⟨0, by omega, Lh (by simpa using HG2.o)⟩
 case round =>
  clear HG HG2 HXM HXB HLM HNM HNB
  obtain ⟨j, hj, HG⟩ := hrel
  have hz64 : zerosN n < 64 := by unfold zerosN; omega
  have hll := HL.o
  have hLn : (xs ++ [128] ++ List.replicate j (0 : Int)).length = n + 1 + j := by simp; omega
  obtain ⟨L, hL⟩ : ∃ L, xs ++ [128] ++ List.replicate j (0 : Int) = L := ⟨_, rfl⟩
  rw [hL] at HG hLn
  obtain ⟨g, cap, rfl, hg1, hg2⟩ := HG.o.own.some (by omega)
  obtain ⟨N1, hN1⟩ : ∃ N1, L.length = N1 := ⟨_, rfl⟩
  rw [hN1] at HG hLn ⊢
  have hml := (zeros_test n j hj)
  have HXM := Lh (show L.length + 1 ≤ maxLen by unfold maxLen; omega)
  have HXB := Lh (show (L.length + 1) * 1 ≤ 140737488355328 by omega)
  have HLN := Lh hLn
  have HLL := Lh hL
  have HN1 := Lh hN1
  have n0 : (0 : Int) ≤ (N1 : Int) := by omega
  have nm : (N1 : Int) ≤ 200000 := by omega
  have hw8 : IntKind.i64.wrap ((N1 : Int) + 8) = (N1 : Int) + 8 := IntWalk.i64_in _ (by omega)
  by_cases he : j = zerosN n
  case neg =>
   have ht : ((((N1 : Int) + 8) % 64) != 0) = true := by
    have : ¬ ((n + 1 + j + 8) % 64 = 0) := fun h => he (hml.1 h)
    simp; omega
   clear hL hLn hll hN1 hml hz64
   go_wp2_with (at_builtin; refine wpList_append_own _ rfl _ _ 80 rfl w.heap.size 5 i0 (.int .u8 0) 1 1 Tryz.underlying80 hi hz0 hz1 hz2 rfl (by decide) _ (L).length ((L).map (Value.int .u8)) rfl (HG.o.own.keep ((Below.refl _ _).alloc (Nat.le_refl _) _)) _ 1 1 [.int .u8 (0)] rfl rfl (fun j u hj => by cases j with | zero => simp at hj; subst hj; simp [go_sem] | succ j => simp at hj) (fun u hu => by simp at hu; subst hu; rfl) HXM.o HXB.o (HG.o.leA _) ?_; intro v3 w3 hown hgr hnil; have HG3 := Lh (HG.o.snoc hown hgr); clear hown hgr hnil)
   go_roundw
   case rel => exact ⟨j + 1, by omega, by rw [← rep_snoc, HLL.o]; exact HG3.o⟩
   case measure =>
    obtain ⟨g', cap', rfl, -, -⟩ := HG3.o.own.some (by simp)
    have := HN1.o
    have := HLN.o
    simp [lenV]
    omega
  case pos =>
   have ht : ((((N1 : Int) + 8) % 64) != 0) = false := by
    have : (n + 1 + j + 8) % 64 = 0 := hml.2 he
    simp; omega
   clear hL hLn hll hN1 hml
   have hwn : IntKind.u64.wrap (n : Int) = n := IntWalk.u64_in _ (by omega)
   have hwm : IntKind.u64.wrap ((n : Int) * 8) = n * 8 := IntWalk.u64_in _ (by omega)
   subst he
   have HG4 := Lh (show Grew w wr w.heap.size (.slice (some ⟨g, 0, none⟩) N1 cap) (padN xs n 0) by rw [padN_zero, HLL.o]; exact HG.o)
   clear HG HXM HXB HLL
   go_wp2_with fail
   go_loopw [3, 5] (fun c3 c5 wr => ∃ k : Nat, k ≤ 8 ∧ c5 = .int .i64 k ∧ Hid (Grew w wr w.heap.size c3 (padN xs n k))) (fun _ c5 _ => 8 - (intOf c5).toNat)
   case atStart => exact ⟨0, by omega, rfl, HG4.o⟩
   case round =>
    clear HG4
    obtain ⟨k, hk, rfl, HG⟩ := hrel
    by_cases hlt : k < 8
    case neg =>
     obtain rfl : k = 8 := by omega
     rw [HL.o, padN_all] at HG
     go_wp2_with fail
     go_ret
     exact ⟨_, rfl, HG.o.own, HG.o.bel⟩
    case pos =>
     have hd : decide ((k : Int) < 8) = true := by simp; omega
     have k0 : (0 : Int) ≤ (k : Int) := by omega
     have p0 : (0 : Int) ≤ 56 - 8 * (k : Int) := by omega
     have e0 : (56 - 8 * (k : Int)).toNat = 56 - 8 * k := by omega
     have hm0 : min (56 - 8 * k) 64 = 56 - 8 * k := by omega
     have hw1 : IntKind.i64.wrap ((k : Int) + 1) = (k : Int) + 1 := IntWalk.i64_in _ (by omega)
     have hw2 : IntKind.i64.wrap (8 * (k : Int)) = 8 * (k : Int) := IntWalk.i64_in _ (by omega)
     have hw3 : IntKind.i64.wrap (56 - 8 * (k : Int)) = 56 - 8 * (k : Int) := IntWalk.i64_in _ (by omega)
     have hpl : (padN xs n k).length ≤ 200000 := by rw [padN_len]; have := HL.o; omega
     have HXM := Lh (show (padN xs n k).length + 1 ≤ maxLen by unfold maxLen; omega)
     have HXB := Lh (show ((padN xs n k).length + 1) * 1 ≤ 140737488355328 by omega)
     clear hpl
     go_wp2_with (at_builtin; refine wpList_append_own _ rfl _ _ 80 rfl w.heap.size 5 i0 (.int .u8 0) 1 1 Tryz.underlying80 hi hz0 hz1 hz2 rfl (by decide) _ (padN xs n k).length ((padN xs n k).map (Value.int .u8)) rfl (HG.o.own.keep ((Below.refl _ _).alloc (Nat.le_refl _) _)) _ 1 1 [.int .u8 ((n : Int) * 8 / 2 ^ (56 - 8 * k) % 256)] rfl rfl (fun j u hj => by cases j with | zero => simp at hj; subst hj; simp [go_sem] | succ j => simp at hj) (fun u hu => by simp at hu; subst hu; rfl) HXM.o HXB.o (HG.o.leA _) ?_; intro v4 w4 hown hgr hnil; have HG4 := Lh (HG.o.snoc hown hgr); clear hown hgr hnil)
     go_roundw
     case rel => exact ⟨k + 1, by omega, by go_num, by rw [← padN_succ xs n k hlt rfl]; exact HG4.o⟩
     case measure => simp [intOf]; omega
end Go.Proofs.YtlbldpkgnonbpaaGreatDoor
/- suffrageref05.After: a block compressed into a state, the reference. -/
namespace Go.Proofs.YtlbldpkgnonbpaaGreatDoor
open Go Go.RowKit Sha
theorem ch_eq2 (e f g : Int) : bits .or .u32 (bits .and .u32 e f) (bits .and .u32 (bits .xor .u32 (if IntKind.u32.signed = true then -1 else IntKind.u32.max) e) g) = ch e f g := by
 have h1 : (if IntKind.u32.signed = true then -1 else IntKind.u32.max) = 4294967295 := rfl
 have h2 : bits .xor .u32 4294967295 e = bits .xor .u32 (-1) e := by
  rw [xorB, xorB, show B 4294967295 = B (-1) by decide]
 rw [h1, h2, ch_eq]
theorem hbu8 (w : World) (x0 x1 x2 x3 x4 x5 x6 x7 : Int) : (Instr.build 191 #[(0, .int .u32 x0), (1, .int .u32 x1), (2, .int .u32 x2), (3, .int .u32 x3), (4, .int .u32 x4), (5, .int .u32 x5), (6, .int .u32 x6), (7, .int .u32 x7)]).run Tryz.prog w = .ok (.agg (valV .u32 [x0, x1, x2, x3, x4, x5, x6, x7])) w := by kernel_rfl
structure AftIn (w wx : World) (Bs Br Bw : Nat) (s : S8) (ws : List Int) : Prop where
 fs : Arr .u32 wx Bs s.l
 fr : Arr .u32 wx Br (List.replicate 8 0)
 fw : Arr .u32 wx Bw ws
 sw : Bw ≠ Bs
 rw : Bw ≠ Br
 wl : w.heap.size ≤ Bw
 rl : w.heap.size ≤ Br
 bel : Below w.heap.size w wx
theorem AftIn.drewN {w wx : World} {Bs Br Bw : Nat} {s : S8} {ws : List Int} (h : AftIn w wx Bs Br Bw s ws) (n : Nat) : AftIn w (wx.drewN n) Bs Br Bw s ws :=
 ⟨h.fs.drewN n, h.fr.drewN n, h.fw.drewN n, h.sw, h.rw, h.wl, h.rl, below_drewN h.bel n⟩
theorem AftIn.set {w wx : World} {Bs Br Bw : Nat} {s : S8} {ws ws' : List Int} {i : Nat} {x : Int} (h : AftIn w wx Bs Br Bw s ws) (hi : i < ws.length) (hx : ws.set i x = ws') : AftIn w (wx.setCell ⟨Bw, i, none⟩ (.int .u32 x)) Bs Br Bw s ws' :=
 ⟨h.fs.far h.sw _, h.fr.far h.rw _, h.fw.set i hi hx, h.sw, h.rw, h.wl, h.rl, h.bel.setCell h.wl _⟩
theorem AftIn.keep {w wx wy : World} {Bs Br Bw : Nat} {s : S8} {ws : List Int} (h : AftIn w wx Bs Br Bw s ws) (hb : Below wx.heap.size wx wy) : AftIn w wy Bs Br Bw s ws :=
 ⟨h.fs.keep hb, h.fr.keep hb, h.fw.keep hb, h.sw, h.rw, h.wl, h.rl, h.bel.trans (hb.mono h.bel.size)⟩
theorem AftIn.laid {w wx wy : World} {Bs Br Bw b q : Nat} {s : S8} {ws ys : List Int} (h : AftIn w wx Bs Br Bw s ws) (hL : Laid .u32 wx wy b q ys) (hb : Bs ≠ b) (hr : Br ≠ b) (hw : Bw ≠ b) (hl : w.heap.size ≤ b) : AftIn w wy Bs Br Bw s ws :=
 ⟨h.fs.laid hL hb, h.fr.laid hL hr, h.fw.laid hL hw, h.sw, h.rw, h.wl, h.rl, h.bel.trans (hL.below _ hl)⟩
set_option maxHeartbeats 8000000 in
theorem rAfter_any {o m n sb q : Nat} {p : List Int} {s : S8} (w : World) (h : Blk w sb o p q) (hn : 64 ≤ n) (hn2 : n < 1000000000) :
 Calls Tryz.prog 142 #[.agg (valV .u32 s.l), .slice (some ⟨sb, o, none⟩) n m] w fun e w' => e = .returned (.agg (valV .u32 (stepS p q s).l)) ∧ Below w.heap.size w w' := by
 have HS := Lh h
 have hsl := h.lt
 clear h
 go_enter Tryz.func142, Tryz.ntmps142
 go_wp2_with (first
  | (refine wpL_boxArr rfl 191 .u32 _ s.l rfl rfl ?_; intro w1 h1; have F_s := Lh h1.arr; have HBW := Lh (h1.below _ (Nat.le_refl _)); have hle := HBW.o.size; clear h1; simp only [sY])
  | (refine wpL_allocArr rfl 191 .u32 8 rfl (by kernel_rfl) ?_; intro w2 h2; have ne_s_r := Nat.ne_of_lt F_s.o.lt; replace F_s := Lh (F_s.o.keep (h2.below _ (Nat.le_refl _))); have F_r := Lh h2.arr; replace HBW := Lh (HBW.o.trans (h2.below _ HBW.o.size)); have hle2 := HBW.o.size; clear h2; simp only [sY])
  | (refine wpL_allocArr rfl 209 .u32 64 rfl (by kernel_rfl) ?_; intro w3 h3; have HA := Lh (show AftIn w w3 w.heap.size w1.heap.size w2.heap.size s (wsL p q 0) from ⟨F_s.o.keep (h3.below _ (Nat.le_refl _)), F_r.o.keep (h3.below _ (Nat.le_refl _)), by rw [wsL_zero]; exact h3.arr, Nat.ne_of_gt F_s.o.lt, Nat.ne_of_gt F_r.o.lt, hle2, hle, HBW.o.trans (h3.below _ hle2)⟩); clear h3; simp only [sY]))
 clear F_s F_r HBW hle hle2 ne_s_r
 generalize w2.heap.size = Bw at HA ⊢
 generalize w1.heap.size = Br at HA ⊢
 go_loopw [6] (fun c6 wr => ∃ k : Nat, k ≤ 64 ∧ c6 = .int .i64 k ∧ Hid (AftIn w wr w.heap.size Br Bw s (wsL p q k))) (fun c6 _ => 64 - (intOf c6).toNat)
 case atStart => exact ⟨0, by omega, rfl, HA.o⟩
 case round =>
  clear HA
  obtain ⟨k, hk, rfl, HI⟩ := hrel
  have F := Lh HI.o.fw
  by_cases hlt : k < 64
  case pos =>
   have hd : decide ((k : Int) < 64) = true := by simp; omega
   have k0 : (0 : Int) ≤ (k : Int) := by omega
   have ukk : (k : Int) < 64 := by omega
   have hw1 : IntKind.i64.wrap ((k : Int) + 1) = (k : Int) + 1 := IntWalk.i64_in _ (by omega)
   have fk := F.o.c k (by rw [wsL_len]; omega)
   rw [wsL_get0 _ _ _ _ (by omega)] at fk
   have fz := F.o.f k
   by_cases h16 : k < 16
   case pos =>
    have hd16 : decide ((k : Int) < 16) = true := by simp; omega
    have hw4 : IntKind.i64.wrap (4 * (k : Int)) = 4 * (k : Int) := IntWalk.i64_in _ (by omega)
    have e4 : (4 * (k : Int)) = ((4 * k : Nat) : Int) := by omega
    have HBk := Lh (HS.o.below HI.o.bel hsl)
    have HE4 := Lh e4
    clear e4
    go_wp2_with (go_at_call 156; rw [HE4.o]; refine (rword_any (k := 4 * k) (v := ws p q k) _ (by omega) hn2 (HS.o.b _).1 (HS.o.b _).2 (HS.o.b _).1 (HS.o.b _).2 (HS.o.b _).1 (HS.o.b _).2 (HS.o.b _).1 (HS.o.b _).2 (HBk.o.c (4 * k) (by omega)) (HBk.o.c (4 * k + 1) (by omega)) (HBk.o.c (4 * k + 2) (by omega)) (HBk.o.c (4 * k + 3) (by omega)) (by rw [ws_lo _ _ _ h16, wordAt]; rfl)).mono ?_; rintro e w8 ⟨rfl, n8, rfl⟩)
    go_roundw
    case rel => exact ⟨k + 1, by omega, by go_num, AftIn.set (HI.o.drewN n8) (by rw [wsL_len]; omega) (wsL_succ p q k (by omega) rfl)⟩
    case measure => simp [intOf]; omega
   case neg =>
    have hk : 16 ≤ k := by omega
    have hd16 : decide ((k : Int) < 16) = false := by simp; omega
    obtain ⟨x16, hx16⟩ : ∃ x, ws p q (k - 16) = x := ⟨_, rfl⟩
    obtain ⟨x15, hx15⟩ : ∃ x, ws p q (k - 15) = x := ⟨_, rfl⟩
    obtain ⟨x7, hx7⟩ : ∃ x, ws p q (k - 7) = x := ⟨_, rfl⟩
    obtain ⟨x2, hx2⟩ : ∃ x, ws p q (k - 2) = x := ⟨_, rfl⟩
    have c16 := F.o.c (k - 16) (by rw [wsL_len]; omega)
    have c15 := F.o.c (k - 15) (by rw [wsL_len]; omega)
    have c7 := F.o.c (k - 7) (by rw [wsL_len]; omega)
    have c2 := F.o.c (k - 2) (by rw [wsL_len]; omega)
    rw [wsL_get _ _ _ _ (by omega) (by omega), hx16] at c16
    rw [wsL_get _ _ _ _ (by omega) (by omega), hx15] at c15
    rw [wsL_get _ _ _ _ (by omega) (by omega), hx7] at c7
    rw [wsL_get _ _ _ _ (by omega) (by omega), hx2] at c2
    have HX := Lh (And.intro hx16 (And.intro hx15 (And.intro hx7 hx2)))
    clear hx16 hx15 hx7 hx2
    obtain ⟨r7, hr7⟩ : ∃ x, rot x15 7 = x := ⟨_, rfl⟩
    obtain ⟨r18, hr18⟩ : ∃ x, rot x15 18 = x := ⟨_, rfl⟩
    obtain ⟨r17, hr17⟩ : ∃ x, rot x2 17 = x := ⟨_, rfl⟩
    obtain ⟨r19, hr19⟩ : ∃ x, rot x2 19 = x := ⟨_, rfl⟩
    have HR7 := Lh hr7
    have HR18 := Lh hr18
    have HR17 := Lh hr17
    have HR19 := Lh hr19
    clear hr7 hr18 hr17 hr19
    have w16 : IntKind.i64.wrap ((k : Int) - 16) = (k : Int) - 16 := IntWalk.i64_in _ (by omega)
    have w15 : IntKind.i64.wrap ((k : Int) - 15) = (k : Int) - 15 := IntWalk.i64_in _ (by omega)
    have w7 : IntKind.i64.wrap ((k : Int) - 7) = (k : Int) - 7 := IntWalk.i64_in _ (by omega)
    have w2 : IntKind.i64.wrap ((k : Int) - 2) = (k : Int) - 2 := IntWalk.i64_in _ (by omega)
    have e16 : ((k : Int) - 16).toNat = k - 16 := by omega
    have e15 : ((k : Int) - 15).toNat = k - 15 := by omega
    have e7 : ((k : Int) - 7).toNat = k - 7 := by omega
    have e2 : ((k : Int) - 2).toNat = k - 2 := by omega
    have l16 : (0 : Int) ≤ (k : Int) - 16 := by omega
    have l15 : (0 : Int) ≤ (k : Int) - 15 := by omega
    have l7 : (0 : Int) ≤ (k : Int) - 7 := by omega
    have l2 : (0 : Int) ≤ (k : Int) - 2 := by omega
    have bb16 : (k : Int) - 16 < 64 := by omega
    have bb15 : (k : Int) - 15 < 64 := by omega
    have bb7 : (k : Int) - 7 < 64 := by omega
    have bb2 : (k : Int) - 2 < 64 := by omega
    have ukk : (k : Int) < 64 := by omega
    have g16 : (16 : Int) ≤ (k : Int) := by omega
    have g15 : (15 : Int) ≤ (k : Int) := by omega
    have g7 : (7 : Int) ≤ (k : Int) := by omega
    have g2 : (2 : Int) ≤ (k : Int) := by omega
    go_wp2_with fail
    go_quiet (fail)
    go_wp2_with fail
    have hS := And.intro c16 c7
    refine wp_region_stage 29 (fun w' => w'.cell? ⟨Bw, k - 16, none⟩ = some (.int .u32 x16) ∧ w'.cell? ⟨Bw, k - 7, none⟩ = some (.int .u32 x7)) (by kernel_rfl) ?_
    refine tkQ 0 (some 41) (.move (.tmp 6)) 3 ?_
    simp only [sY]
    refine tkQ 1 (some 42) (.move (.tmp 6)) 3 ?_
    simp only [sY]
    refine tkQ 2 (some 43) (.binOp .sub 3 (.tmp 42) (.const (.int .i64 16)) 3) 3 ?_
    simp only [sY]
    refine tkQ 3 (some 44) (.indexAddr 209 (.tmp 5) (.tmp 43)) 0 ?_
    simp only [sY]
    refine tkL (i := 4) (some 45) (.load 108 (.tmp 44)) 108 [13, 18, 27, 28, 29] (v := ?_) hS (fun w' hSw => ?_) ?_
    rotate_left
    · obtain ⟨a16, a7⟩ := hSw
      unfold bareOp; go_simp; try with_reducible rfl
    simp only [sY]
    refine tkQ 5 (some 46) (.move (.tmp 7)) 108 ?_
    simp only [sY]
    refine tkQ 7 (some 48) (.move (.tmp 7)) 108 ?_
    simp only [sY]
    refine tkQ 10 (some 51) (.move (.tmp 7)) 108 ?_
    simp only [sY]
    refine tkQ 11 (some 52) (.binOp .shr 108 (.tmp 51) (.const (υ 3)) 173) 108 ?_
    simp only [sY]
    refine tkQ 14 (some 55) (.move (.tmp 6)) 3 ?_
    simp only [sY]
    refine tkQ 15 (some 56) (.binOp .sub 3 (.tmp 55) (.const (.int .i64 7)) 3) 3 ?_
    simp only [sY]
    refine tkQ 16 (some 57) (.indexAddr 209 (.tmp 5) (.tmp 56)) 0 ?_
    simp only [sY]
    refine tkL (i := 17) (some 58) (.load 108 (.tmp 57)) 108 [18, 27, 28, 29] (v := ?_) hS (fun w' hSw => ?_) ?_
    rotate_left
    · obtain ⟨a16, a7⟩ := hSw
      unfold bareOp; go_simp; try with_reducible rfl
    simp only [sY]
    refine tkQ 19 (some 60) (.move (.tmp 8)) 108 ?_
    simp only [sY]
    refine tkQ 21 (some 62) (.move (.tmp 8)) 108 ?_
    simp only [sY]
    refine tkQ 24 (some 65) (.move (.tmp 8)) 108 ?_
    simp only [sY]
    refine tkQ 25 (some 66) (.binOp .shr 108 (.tmp 65) (.const (υ 10)) 173) 108 ?_
    simp only [sY]
    refine onl (i := 6) (some 47) (.call { callee := .value (.func 157), args := #[.tmp 46, .const (.int .i64 7)], argTypes := #[108, 3] }) 108 (fun K hK => ?_)
    unfold bareOp
    go_wp2_with (go_at_call 157; refine (rturned_any (n := 7) _ (by decide) (by decide) HR7.o).mono ?_; rintro e w8 ⟨rfl, n8, rfl⟩)
    refine hK.o _ _ (fun _ => hS) ?_
    clear hK K
    try simp only [sY]
    refine onl (i := 8) (some 49) (.call { callee := .value (.func 157), args := #[.tmp 48, .const (.int .i64 18)], argTypes := #[108, 3] }) 108 (fun K hK => ?_)
    unfold bareOp
    go_wp2_with (go_at_call 157; refine (rturned_any (n := 18) _ (by decide) (by decide) HR18.o).mono ?_; rintro e w8 ⟨rfl, n8, rfl⟩)
    refine hK.o _ _ (fun _ => hS) ?_
    clear hK K
    try simp only [sY]
    refine tkQ 9 (some 50) (.binOp .xor 108 (.tmp 47) (.tmp 49) 108) 108 ?_
    simp only [sY]
    refine tkQ 12 (some 53) (.binOp .xor 108 (.tmp 50) (.tmp 52) 108) 108 ?_
    simp only [sY]
    refine tkQ 13 (some 54) (.binOp .add 108 (.tmp 45) (.tmp 53) 108) 108 ?_
    simp only [sY]
    refine tkQ 18 (some 59) (.binOp .add 108 (.tmp 54) (.tmp 58) 108) 108 ?_
    simp only [sY]
    refine onl (i := 20) (some 61) (.call { callee := .value (.func 157), args := #[.tmp 60, .const (.int .i64 17)], argTypes := #[108, 3] }) 108 (fun K hK => ?_)
    unfold bareOp
    go_wp2_with (go_at_call 157; refine (rturned_any (n := 17) _ (by decide) (by decide) HR17.o).mono ?_; rintro e w8 ⟨rfl, n8, rfl⟩)
    refine hK.o _ _ (fun _ => hS) ?_
    clear hK K
    try simp only [sY]
    refine onl (i := 22) (some 63) (.call { callee := .value (.func 157), args := #[.tmp 62, .const (.int .i64 19)], argTypes := #[108, 3] }) 108 (fun K hK => ?_)
    unfold bareOp
    go_wp2_with (go_at_call 157; refine (rturned_any (n := 19) _ (by decide) (by decide) HR19.o).mono ?_; rintro e w8 ⟨rfl, n8, rfl⟩)
    refine hK.o _ _ (fun _ => hS) ?_
    clear hK K
    try simp only [sY]
    refine tkQ 23 (some 64) (.binOp .xor 108 (.tmp 61) (.tmp 63) 108) 108 ?_
    simp only [sY]
    refine tkQ 26 (some 67) (.binOp .xor 108 (.tmp 64) (.tmp 66) 108) 108 ?_
    simp only [sY]
    refine tkQ 27 (some 68) (.binOp .add 108 (.tmp 59) (.tmp 67) 108) 108 ?_
    simp only [sY]
    refine tkQ 28 (some 69) (.indexAddr 209 (.tmp 5) (.tmp 41)) 0 ?_
    simp only [sY]
    refine onl (i := 29) none (.store 108 (.tmp 69) (.tmp 68)) 0 (fun K hK => ?_)
    unfold bareOp
    go_wp2_with fail
    refine hK.o _ _ lt8 ?_
    clear hK K
    try simp only [sY]
    refine wpAnyB_done (by kernel_rfl) ?_ _
    go_wp2_with fail
    go_roundw
    case rel =>
     refine ⟨k + 1, by omega, by go_num, AftIn.set (HI.o.drewN _) (by rw [wsL_len]; omega) (wsL_succ p q k hlt ?_)⟩
     rw [ws_hi _ _ _ (by omega), HX.o.1, HX.o.2.1, HX.o.2.2.1, HX.o.2.2.2, sig0, sig1, HR7.o, HR18.o, HR17.o, HR19.o]
     unfold M; omega
    case measure => simp [intOf]; omega
  case neg =>
   clear F
   obtain rfl : k = 64 := by omega
   simp only [Int.cast_ofNat_Int]
   clear hk hlt
   replace HI := Lh (show AftIn w wr w.heap.size Br Bw s (wsAll p q) from HI.o)
   go_wp2_with (first
    | (go_at_call 158; refine (rK_any _).mono ?_; rintro e w4 ⟨rfl, hb4⟩; have HI4 := Lh (HI.o.keep hb4); clear hb4)
    | (refine wpL_allocArr rfl 209 .u32 64 rfl (by kernel_rfl) ?_; intro w5 h5; have ne_s_k := Nat.ne_of_lt HI4.o.fs.lt; have ne_r_k := Nat.ne_of_lt HI4.o.fr.lt; have ne_w_k := Nat.ne_of_lt HI4.o.fw.lt; have le_k := HI4.o.bel.size; have F_k := Lh h5.arr; have HI5 := Lh (HI4.o.keep (h5.below _ (Nat.le_refl _))); clear h5; simp only [sY])
    | (refine wpL_storeArr rfl 209 .u32 _ _ w4.heap.size kTab _ rfl rfl rfl rfl (by kernel_rfl) F_k.o rfl ?_; intro w6 h6; have HI6 := Lh (HI5.o.laid h6 ne_s_k ne_r_k ne_w_k le_k); have F_k6 := Lh (F_k.o.whole h6); clear h6))
   clear HI HI4 HI5 F_k ne_s_k ne_r_k ne_w_k le_k
   generalize w4.heap.size = Bk at F_k6 ⊢
   have s0 : w6.cell? ⟨w.heap.size, 0, none⟩ = some (.int .u32 s.a) := HI6.o.fs.c 0 (by decide : 0 < 8)
   have s1 : w6.cell? ⟨w.heap.size, 1, none⟩ = some (.int .u32 s.b) := HI6.o.fs.c 1 (by decide : 1 < 8)
   have s2 : w6.cell? ⟨w.heap.size, 2, none⟩ = some (.int .u32 s.c) := HI6.o.fs.c 2 (by decide : 2 < 8)
   have s3 : w6.cell? ⟨w.heap.size, 3, none⟩ = some (.int .u32 s.d) := HI6.o.fs.c 3 (by decide : 3 < 8)
   have s4 : w6.cell? ⟨w.heap.size, 4, none⟩ = some (.int .u32 s.e) := HI6.o.fs.c 4 (by decide : 4 < 8)
   have s5 : w6.cell? ⟨w.heap.size, 5, none⟩ = some (.int .u32 s.f) := HI6.o.fs.c 5 (by decide : 5 < 8)
   have s6 : w6.cell? ⟨w.heap.size, 6, none⟩ = some (.int .u32 s.g) := HI6.o.fs.c 6 (by decide : 6 < 8)
   have s7 : w6.cell? ⟨w.heap.size, 7, none⟩ = some (.int .u32 s.h) := HI6.o.fs.c 7 (by decide : 7 < 8)
   go_quiet (fail)
   go_wp2_with fail
   have HJ := Lh (HI6.o.drewN nq)
   have FK := Lh (F_k6.o.drewN nq)
   clear s0 s1 s2 s3 s4 s5 s6 s7
   generalize w6.drewN nq = w7 at HJ FK ⊢
   clear HI6 F_k6
   go_loopw [10, 11, 12, 13, 14, 15, 16, 17, 18] (fun c10 c11 c12 c13 c14 c15 c16 c17 c18 wr => ∃ (t : Nat) (va vb vc vd ve vf vg vh : Int), t ≤ 64 ∧ (⟨va, vb, vc, vd, ve, vf, vg, vh⟩ : S8) = rnds p q s t ∧ c18 = .int .i64 t ∧ c10 = .int .u32 va ∧ c11 = .int .u32 vb ∧ c12 = .int .u32 vc ∧ c13 = .int .u32 vd ∧ c14 = .int .u32 ve ∧ c15 = .int .u32 vf ∧ c16 = .int .u32 vg ∧ c17 = .int .u32 vh ∧ Hid (AftIn w wr w.heap.size Br Bw s (wsAll p q)) ∧ Hid (Arr .u32 wr Bk kTab)) (fun _ _ _ _ _ _ _ _ c18 _ => 64 - (intOf c18).toNat)
   case atStart => exact ⟨0, s.a, s.b, s.c, s.d, s.e, s.f, s.g, s.h, by omega, rfl, rfl, rfl, rfl, rfl, rfl, rfl, rfl, rfl, rfl, HJ.o, FK.o⟩
   case round =>
    clear HJ FK
    obtain ⟨t, va, vb, vc, vd, ve, vf, vg, vh, ht, hv, rfl, rfl, rfl, rfl, rfl, rfl, rfl, rfl, rfl, HJ, FK⟩ := hrel
    have HV := Lh hv
    clear hv
    by_cases hlt : t < 64
    case pos =>
     obtain ⟨kk, hkk⟩ : ∃ x, kAt t = x := ⟨_, rfl⟩
     obtain ⟨ww, hww⟩ : ∃ x, ws p q t = x := ⟨_, rfl⟩
     have ck : wr.cell? ⟨Bk, t, none⟩ = some (.int .u32 kk) := by rw [← hkk]; exact FK.o.c t hlt
     have cw := HJ.o.fw.c t (by rw [wsAll_len]; exact hlt)
     rw [wsAll_get _ _ _ hlt, hww] at cw
     have HKK := Lh hkk
     have HWW := Lh hww
     clear hkk hww
     have hd : decide ((t : Int) < 64) = true := by simp; omega
     have l64 : (t : Int) < 64 := by omega
     have t0 : (0 : Int) ≤ (t : Int) := by omega
     have hw1 : IntKind.i64.wrap ((t : Int) + 1) = (t : Int) + 1 := IntWalk.i64_in _ (by omega)
     go_wp2_with fail
     go_quiet ((go_at_call 157; refine Calls.quiet_of (rturned_z _ (by decide) (by decide))))
     go_wp2_with (go_at_call 157; refine (rturned_z _ (by decide) (by decide)).mono ?_; rintro e w8 ⟨rfl, n8, rfl⟩)
     go_roundw
     case rel =>
      refine ⟨t + 1, _, va, vb, vc, _, ve, vf, vg, by omega, ?_, by go_num, rfl, rfl, rfl, rfl, rfl, rfl, rfl, rfl, HJ.o.drewN _, FK.o.drewN _⟩
      rw [rnds, ← HV.o, HKK.o, HWW.o]
      show _ = (⟨M (xOf ⟨va, vb, vc, vd, ve, vf, vg, vh⟩ kk ww + yOf ⟨va, vb, vc, vd, ve, vf, vg, vh⟩), va, vb, vc, M (vd + xOf ⟨va, vb, vc, vd, ve, vf, vg, vh⟩ kk ww), ve, vf, vg⟩ : S8)
      rw [S8.mk.injEq]
      refine ⟨?_, rfl, rfl, rfl, ?_, rfl, rfl, rfl⟩
      · simp only [xOf, yOf, big1, big0]
        rw [← ch_eq2 ve vf vg, ← mj_eq va vb vc]
        unfold M
        omega
      · simp only [xOf, big1]
        rw [← ch_eq2 ve vf vg]
        unfold M
        omega
     case measure => simp [intOf]; omega
    case neg =>
     obtain rfl : t = 64 := by omega
     simp only [Int.cast_ofNat_Int]
     clear ht hlt
     have hbu := hbu8
     have s0 : wr.cell? ⟨w.heap.size, 0, none⟩ = some (.int .u32 s.a) := HJ.o.fs.c 0 (by decide : 0 < 8)
     have s1 : wr.cell? ⟨w.heap.size, 1, none⟩ = some (.int .u32 s.b) := HJ.o.fs.c 1 (by decide : 1 < 8)
     have s2 : wr.cell? ⟨w.heap.size, 2, none⟩ = some (.int .u32 s.c) := HJ.o.fs.c 2 (by decide : 2 < 8)
     have s3 : wr.cell? ⟨w.heap.size, 3, none⟩ = some (.int .u32 s.d) := HJ.o.fs.c 3 (by decide : 3 < 8)
     have s4 : wr.cell? ⟨w.heap.size, 4, none⟩ = some (.int .u32 s.e) := HJ.o.fs.c 4 (by decide : 4 < 8)
     have s5 : wr.cell? ⟨w.heap.size, 5, none⟩ = some (.int .u32 s.f) := HJ.o.fs.c 5 (by decide : 5 < 8)
     have s6 : wr.cell? ⟨w.heap.size, 6, none⟩ = some (.int .u32 s.g) := HJ.o.fs.c 6 (by decide : 6 < 8)
     have s7 : wr.cell? ⟨w.heap.size, 7, none⟩ = some (.int .u32 s.h) := HJ.o.fs.c 7 (by decide : 7 < 8)
     go_wp2_with (first
      | (refine wpL_storeArr rfl 191 .u32 _ _ Br [(s.a + va) % 4294967296, (s.b + vb) % 4294967296, (s.c + vc) % 4294967296, (s.d + vd) % 4294967296, (s.e + ve) % 4294967296, (s.f + vf) % 4294967296, (s.g + vg) % 4294967296, (s.h + vh) % 4294967296] _ rfl rfl rfl rfl (by kernel_rfl) HJ.o.fr rfl ?_; intro w9 h9; have H9 := Lh h9; clear h9))
     refine bodyPost_ret (res_arr .u32 Br 0 _ 8 108 rfl Tryz.underlying191 (by kernel_rfl) _ rfl H9.o.row) rfl ?_
     refine ⟨?_, HJ.o.bel.trans (H9.o.below _ HJ.o.rl)⟩
     rw [stepS, ← HV.o]
     rfl
end Go.Proofs.YtlbldpkgnonbpaaGreatDoor
/- suffrageref05.Of: the digest, the reference. -/
namespace Go.Proofs.YtlbldpkgnonbpaaGreatDoor
open Go Go.RowKit Sha
theorem take_set {n : Nat} {xs : List Int} (hx : xs.length = n) {i : Nat} (hi : i < n) {x : Int} (h : xs.getD i 0 = x) : (xs.take i ++ List.replicate (n - i) 0).set i x = xs.take (i + 1) ++ List.replicate (n - (i + 1)) 0 := by
 subst h
 apply List.ext_getElem
 · simp [hx]; omega
 · intro j h1 h2
   simp only [List.getElem_set, List.getElem_append, List.getElem_take, List.getElem_replicate, List.length_take, hx]
   by_cases e : i = j
   · subst e
     rw [if_pos rfl, dif_pos (by omega), List.getD_eq_getElem?_getD, List.getElem?_eq_getElem (by omega)]; rfl
   · rw [if_neg e]
     by_cases e2 : j < i
     · rw [dif_pos (by omega), dif_pos (by omega)]
     · rw [dif_neg (by omega), dif_neg (by omega)]
def outB (s : S8) (i : Nat) : List Int := (outOf s).take i ++ List.replicate (32 - i) 0
theorem outB_all (s : S8) : outB s 32 = outOf s := rfl
theorem outB_len (s : S8) (i : Nat) (hi : i ≤ 32) : (outB s i).length = 32 := by simp [outB, outOf_len]; omega
theorem outB_succ (s : S8) (j r : Nat) (hj : j < 8) (hr : r < 4) {x : Int} (hx : s.l.getD j 0 = x) : (outB s (4 * j + r)).set (4 * j + r) (x / 2 ^ (24 - 8 * r) % 256) = outB s (4 * j + r + 1) := by
 refine take_set (outOf_len s) (by omega) ?_
 rw [outOf_at s hj hr, hx]
 have h2 : r = 0 ∨ r = 1 ∨ r = 2 ∨ r = 3 := by omega
 rcases h2 with rfl | rfl | rfl | rfl
 · rfl
 · rfl
 · rfl
 · show x % 256 = x / 2 ^ 0 % 256
   rw [Int.pow_zero, Int.ediv_one]
structure PB (w : World) (g : Nat) (p : List Int) : Prop where
 c : ∀ i, i < p.length → w.cell? ⟨g, i, none⟩ = some (.int .u8 (p.getD i 0))
 lt : g < w.heap.size
theorem PB.keep {w w' : World} {g : Nat} {p : List Int} (h : PB w g p) (hb : Below w.heap.size w w') : PB w' g p :=
 ⟨fun i hi => (hb.cell (p := ⟨g, i, none⟩) h.lt).trans (h.c i hi), Nat.lt_of_lt_of_le h.lt hb.size⟩
theorem PB.laid {w w' : World} {k : IntKind} {g b q : Nat} {ys p : List Int} (h : PB w g p) (hL : Laid k w w' b q ys) (hn : g ≠ b) : PB w' g p :=
 ⟨fun i hi => (hL.cell _ _ hn).trans (h.c i hi), by rw [hL.size]; exact h.lt⟩
theorem PB.drew {w : World} {g : Nat} {p : List Int} (h : PB w g p) : PB w.drew g p := h.keep (Below.refl _ _).drew
theorem PB.blk {w : World} {g q : Nat} {p : List Int} (h : PB w g p) (hp : ∀ i, 0 ≤ p.getD i 0 ∧ p.getD i 0 < 256) (hx : q + 64 ≤ p.length) : Blk w g q p q :=
 ⟨fun i hi => h.c _ (by omega), h.lt, hp⟩
set_option maxHeartbeats 8000000 in
theorem rOf5_any {ad : Addr} {n c : Nat} {xs : List Int} (w : World) (h : ShI .u8 w (some ad) n xs) (hn : n ≤ 100000) (hB : ByteL xs) :
 Calls Tryz.prog 121 #[.slice (some ad) n c] w fun e w' => e = .returned (.agg (valV .u8 (shaS xs))) ∧ Below w.heap.size w w' := by
 have HS := Lh h
 have HL := Lh h.len
 have HPY := Lh (padS_bytes hB).get
 clear h hB
 go_enter Tryz.func121, Tryz.ntmps121
 go_wp2_with (first
  | (refine wpL_allocArr rfl 26 .u8 32 rfl (by kernel_rfl) ?_; intro w1 h1; have F_r := Lh h1.arr; have HBW := Lh (h1.below _ (Nat.le_refl _)); clear h1; simp only [sY])
  | (go_at_call 140; refine (rFirst_any _).mono ?_; rintro e w1b ⟨rfl, hb1⟩; replace F_r := Lh (F_r.o.keep hb1); replace HBW := Kt HBW hb1; clear hb1)
  | (refine wpL_allocArr rfl 191 .u32 8 rfl (by kernel_rfl) ?_; intro w2 h2; have ne_r_s := Nat.ne_of_lt F_r.o.lt; have le_t := HBW.o.size; replace F_r := Lh (F_r.o.keep (h2.below _ (Nat.le_refl _))); have F_s := Lh h2.arr; replace HBW := Lh (HBW.o.trans (h2.below _ HBW.o.size)); clear h2; simp only [sY])
  | (refine wpL_storeArr rfl 191 .u32 _ _ _ firstS.l _ rfl rfl rfl rfl (by kernel_rfl) F_s.o rfl ?_; intro w3 h3; replace F_r := Lh (F_r.o.laid h3 ne_r_s); replace F_s := Lh (F_s.o.whole h3); replace HBW := Lh (HBW.o.trans (h3.below _ le_t)); clear h3))
 refine (rPadded_any _ (HS.o.keep HBW.o) hn).mono ?_
 rintro e w4 ⟨v, rfl, O4, B4⟩
 obtain ⟨g, cap, rfl, hg1, hg2⟩ := O4.some (by rw [padS_len]; omega)
 obtain ⟨N, hN⟩ : ∃ N, (padS xs).length = N := ⟨_, rfl⟩
 obtain ⟨m, hm⟩ : ∃ m, N = 64 * m := ⟨N / 64, by have := padS_mod xs; omega⟩
 have hNm : N ≤ 200000 := by
  have := HL.o
  have hz : zerosN xs.length < 64 := by unfold zerosN; omega
  rw [padS_len] at hN; omega
 have hcap := O4.cap
 rw [hN] at hcap
 generalize w1b.heap.size = Bt at F_s ne_r_s le_t ⊢
 have ne_s_p : Bt ≠ g := by have := F_s.o.lt; omega
 have F_p := Lh (show PB w4 g (padS xs) from ⟨fun i hi => O4.at i hi, hg2⟩)
 replace F_s := Lh (F_s.o.keep B4)
 replace F_r := Lh (F_r.o.keep B4)
 replace HBW := Kt HBW B4
 have HN := Lh hN
 have HM := Lh hm
 rw [hN]
 clear O4 B4 hN hg1 hg2 hm
 go_wp2_with fail
 go_loopw [5] (fun c5 wr => ∃ k : Nat, k ≤ m ∧ c5 = .int .i64 ((64 * k : Nat) : Int) ∧ Hid (Arr .u32 wr Bt (blocks (padS xs) k).l) ∧ Hid (Arr .u8 wr w.heap.size (List.replicate 32 0)) ∧ Hid (PB wr g (padS xs)) ∧ Hid (Below w.heap.size w wr)) (fun c5 _ => N - (intOf c5).toNat)
 case atStart => exact ⟨0, by omega, rfl, F_s.o, F_r.o, F_p.o, HBW.o⟩
 case round =>
  clear F_s F_r F_p HBW
  obtain ⟨k, hk, rfl, F_s, F_r, F_p, HBW⟩ := hrel
  obtain ⟨sk, hsk⟩ : ∃ sk, blocks (padS xs) k = sk := ⟨_, rfl⟩
  rw [hsk] at F_s
  have HSK := Lh hsk
  clear hsk
  by_cases hlt : k < m
  case pos =>
   have hm := HM.o
   obtain ⟨i, hi⟩ : ∃ i, 64 * k = i := ⟨_, rfl⟩
   rw [hi]
   have i0 : (0 : Int) ≤ (i : Int) := by omega
   have hl1 : (i : Int) < (N : Int) := by omega
   have hl2 : (i : Int) ≤ (N : Int) := by omega
   have hd : decide ((i : Int) < (N : Int)) = true := by simp; omega
   have hdn : i < N := by omega
   have hdm : decide (i < N) = true := by simp; omega
   have hl4 : i < cap := by omega
   have hl5 : i ≤ cap := by omega
   have hl6 : ¬ i = cap := by omega
   have hl7 : i + 64 ≤ cap := by omega
   have hl8 : (i : Int) + 64 ≤ (cap : Int) := by omega
   have hl9 : (i : Int) ≤ (i : Int) + 64 := by omega
   have hwi : IntKind.i64.wrap ((i : Int) + 64) = (i : Int) + 64 := IntWalk.i64_in _ (by omega)
   have hti : ((i : Int) + 64).toNat = i + 64 := by omega
   have hsb : i + 64 - i = 64 := by omega
   have i64 : i + 64 ≤ (padS xs).length := by have := HN.o; omega
   have HI2 := Lh hi
   have HI64 := Lh i64
   have HLT := Lh hlt
   clear hi i64 hlt hm hNm
   go_wp2_with fail
   refine wp_region_stage 6 (fun w' => ∀ i, i < sk.l.length → w'.cell? ⟨Bt, i, none⟩ = some (.int .u32 (sk.l.getD i 0))) (by kernel_rfl) ?_
   replace F_s := Lh F_s.o.drew
   replace F_r := Lh F_r.o.drew
   replace F_p := Lh F_p.o.drew
   replace HBW := Lh HBW.o.drew
   refine tkP (i := 1) (some 18) (.move (.tmp 4)) 80 (fun _ => F_s.o.c) ?_
   simp only [sY]
   refine tkP (i := 2) (some 19) (.move (.tmp 5)) 3 (fun _ => F_s.o.c) ?_
   simp only [sY]
   refine tkP (i := 3) (some 20) (.move (.tmp 5)) 3 (fun _ => F_s.o.c) ?_
   simp only [sY]
   refine tkP (i := 4) (some 21) (.binOp .add 3 (.tmp 20) (.const (.int .i64 64)) 3) 3 (fun _ => F_s.o.c) ?_
   simp only [sY]
   refine tkP (i := 5) (some 22) (.slice 80 (.tmp 18) (some (.tmp 19)) (some (.tmp 21)) none) 80 (fun _ => F_s.o.c) ?_
   simp only [sY]
   refine wpAnyB_take (i := 0) (some 17) (.load 191 (.tmp 3)) 191 (v := .agg (valV .u32 sk.l)) ⟨_, rfl, rfl, rfl, rfl, rfl⟩ (by kernel_rfl) (by kernel_rfl) (by kernel_rfl) [6] (by kernel_rfl) (fun _ _ _ h => h) F_s.o.c (fun w' hSw => exec_loadArr rfl rfl Tryz.underlying191 (by kernel_rfl) hSw) ?_
   try simp only [sY]
   refine onl (i := 6) (some 23) (.call { callee := .value (.func 142), args := #[.tmp 17, .tmp 22], argTypes := #[191, 80] }) 191 (fun K hK => ?_)
   unfold bareOp
   go_wp2_with (go_at_call 142; refine (rAfter_any (q := i) (p := padS xs) (s := sk) _ (F_p.o.blk HPY.o HI64.o) (by omega) (by omega)).mono ?_; rintro e w21 ⟨rfl, hb21⟩)
   replace F_s := Lh (F_s.o.keep hb21)
   replace F_r := Lh (F_r.o.keep hb21)
   replace F_p := Lh (F_p.o.keep hb21)
   replace HBW := Kt HBW hb21
   clear hb21
   refine hK.o _ _ lt8 ?_
   clear hK K
   try simp only [sY]
   refine onl (i := 7) none (.store 191 (.tmp 3) (.tmp 23)) 0 (fun K hK => ?_)
   unfold bareOp
   refine wp_storeArr 191 .u32 _ _ _ (stepS (padS xs) i sk).l _ rfl rfl rfl rfl (by kernel_rfl) F_s.o (by rfl) ?_
   intro w22 h22
   have H22 := Lh h22
   clear h22
   replace F_r := Lh (F_r.o.laid H22.o ne_r_s)
   replace F_p := Lh (F_p.o.laid H22.o (Ne.symm ne_s_p))
   replace F_s := Lh (F_s.o.whole H22.o)
   replace HBW := Lh (HBW.o.trans (H22.o.below _ le_t))
   clear H22
   refine hK.o _ _ lt8 ?_
   clear hK K
   try simp only [sY]
   refine wpAnyB_done (by kernel_rfl) ?_ _
   go_wp2_with fail
   have e1 : ((64 * (k + 1) : Nat) : Int) = (i : Int) + 64 := by have := HI2.o; omega
   go_roundw
   case rel => exact ⟨k + 1, HLT.o, by rw [e1], by rw [blocks, HSK.o, HI2.o]; exact F_s.o, F_r.o, F_p.o, HBW.o⟩
   case measure => simp [intOf]; omega
  case neg =>
   obtain rfl : k = m := by omega
   have hm := HM.o
   have HZ := Lh (show outOf sk = shaS xs by rw [shaS, HN.o, hm, Nat.mul_div_cancel_left k (by decide), HSK.o])
   have hl1 : ¬ (((64 * k : Nat) : Int) < (N : Int)) := by omega
   rw [← hm]
   clear hlt hm F_p HSK hNm
   have hd : decide ((N : Int) < (N : Int)) = false := by simp
   clear hl1
   go_wp2_with (refine wpL_allocArr rfl 26 .u8 32 rfl (by kernel_rfl) ?_; intro w6 h6; have ne_r_o := Nat.ne_of_lt F_r.o.lt; have ne_s_o := Nat.ne_of_lt F_s.o.lt; have le_o := HBW.o.size; replace F_r := Lh (F_r.o.keep (h6.below _ (Nat.le_refl _))); replace F_s := Lh (F_s.o.keep (h6.below _ (Nat.le_refl _))); have F_o := Lh h6.arr; replace HBW := Lh (HBW.o.trans (h6.below _ HBW.o.size)); clear h6; simp only [sY])
   generalize wr.heap.size = Bo at F_o ne_r_o ne_s_o le_o ⊢
   replace F_o := Lh (show Arr .u8 w6 Bo (outB sk 0) from F_o.o)
   clear hd
   go_loopw [7] (fun c7 wq => ∃ i : Nat, i ≤ 32 ∧ c7 = .int .i64 i ∧ Hid (Arr .u8 wq Bo (outB sk i)) ∧ Hid (Arr .u32 wq Bt sk.l) ∧ Hid (Arr .u8 wq w.heap.size (List.replicate 32 0)) ∧ Hid (Below w.heap.size w wq)) (fun c7 _ => 32 - (intOf c7).toNat)
   case atStart => exact ⟨0, by omega, rfl, F_o.o, F_s.o, F_r.o, HBW.o⟩
   case round =>
    clear F_o F_s F_r HBW
    obtain ⟨i, hi, rfl, F_o, F_s, F_r, HBW⟩ := hrel
    by_cases hlt : i < 32
    case pos =>
     have hd : decide ((i : Int) < 32) = true := by simp; omega
     obtain ⟨j, r, hj, hr, rfl⟩ : ∃ j r, j < 8 ∧ r < 4 ∧ i = 4 * j + r := ⟨i / 4, i % 4, by omega, by omega, by omega⟩
     obtain ⟨x, hx⟩ : ∃ x, sk.l.getD j 0 = x := ⟨_, rfl⟩
     have cx := F_s.o.c j hj
     rw [hx] at cx
     have co := F_o.o.c (4 * j + r) (by rw [outB_len _ _ (by omega)]; omega)
     have cf := F_o.o.f (4 * j + r)
     obtain ⟨I, hI⟩ : ∃ I, 4 * j + r = I := ⟨_, rfl⟩
     have HX := Lh (show (outB sk I).set I (x / 2 ^ (24 - 8 * r) % 256) = outB sk (I + 1) by rw [← hI]; exact outB_succ sk j r hj hr hx)
     rw [hI] at co cf hi hlt hd F_o ⊢
     have hII := hI
     have I0 : (0 : Int) ≤ (I : Int) := by omega
     have I32 : (I : Int) < 32 := by omega
     have I32n : I < 32 := by omega
     have hq : (I : Int) / 4 = (j : Int) := by omega
     have hr2 : (I : Int) % 4 = (r : Int) := by omega
     have hqt : (I : Int).tdiv 4 = (j : Int) := by rw [Int.tdiv_eq_ediv_of_nonneg I0]; exact hq
     have hrt : (I : Int).tmod 4 = (r : Int) := by rw [Int.tmod_eq_emod_of_nonneg I0]; exact hr2
     have j0 : (0 : Int) ≤ (j : Int) := by omega
     have j8 : (j : Int) < 8 := by omega
     have r0 : (0 : Int) ≤ (r : Int) := by omega
     have hwj : IntKind.i64.wrap (j : Int) = (j : Int) := IntWalk.i64_in _ (by omega)
     have hw8 : IntKind.i64.wrap (8 * (r : Int)) = 8 * (r : Int) := IntWalk.i64_in _ (by omega)
     have hw24 : IntKind.i64.wrap (24 - 8 * (r : Int)) = 24 - 8 * (r : Int) := IntWalk.i64_in _ (by omega)
     have hw1 : IntKind.i64.wrap ((I : Int) + 1) = (I : Int) + 1 := IntWalk.i64_in _ (by omega)
     have p0 : (0 : Int) ≤ 24 - 8 * (r : Int) := by omega
     have e0 : (24 - 8 * (r : Int)).toNat = 24 - 8 * r := by omega
     have hm0 : min (24 - 8 * r) 32 = 24 - 8 * r := by omega
     generalize (outB sk I).getD I 0 = z at co
     clear hI hx hlt hi hj hr hII hd
     have hd : decide ((I : Int) < 32) = true := by simp; omega
     go_wp2_with fail
     go_roundw
     case rel => exact ⟨I + 1, I32n, by go_num, Arr.set F_o.o I (by rw [outB_len _ _ (by omega)]; exact I32n) HX.o, F_s.o.far (Ne.symm ne_s_o) _, F_r.o.far (Ne.symm ne_r_o) _, HBW.o.setCell le_o _⟩
     case measure => simp [intOf]; omega
    case neg =>
     obtain rfl : i = 32 := by omega
     rw [outB_all, HZ.o] at F_o
     have hd : decide (((32 : Nat) : Int) < 32) = false := by decide
     simp only [Int.cast_ofNat_Int]
     go_wp2_with (first
      | (refine wpL_loadArr rfl 26 .u8 _ Bo _ 32 5 rfl rfl Tryz.underlying26 (by kernel_rfl) F_o.o ?_; simp only [sY])
      | (refine wpL_storeArr rfl 26 .u8 _ _ w.heap.size (shaS xs) _ rfl rfl rfl rfl (by kernel_rfl) F_r.o rfl ?_; intro w9 h9; have H9 := Lh h9; clear h9))
     refine bodyPost_ret (res_arr .u8 w.heap.size 0 (shaS xs) 32 5 rfl Tryz.underlying26 (by kernel_rfl) _ rfl H9.o.row) rfl ?_
     exact ⟨rfl, HBW.o.trans (H9.o.below _ (Nat.le_refl _))⟩
end Go.Proofs.YtlbldpkgnonbpaaGreatDoor
