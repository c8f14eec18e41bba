/- Folded: DigZ, DigD, DigE, DigF, DigG, DigH, DigI. -/
import Derived.Test.YtlbldpkgnonbpaaDoorOzE
import Derived.OneCell
import Derived.Laws.OwnMore
import Derived.Laws.AppendOwn
import Derived.Laws.MakeOwn
import Derived.OwnWalk
import Derived.Lib.SliceRun
import Derived.Test.YtlbldpkgnonbpaaDoorOzD
import Derived.RangeFuncNested
import Derived.RangeFuncBound
import Derived.RangeFuncCalls
import Derived.RangeFuncLeaves
import Derived.RangeFuncBox
import Derived.RangeFuncWrites
import Derived.Shelf.Abstract
import Derived.WalkKit
import Derived.BigQuiet
import Derived.OwnWalkIn
import Derived.TacticsInMore
import Derived.LoopNIn
import Derived.LoopIn
set_option linter.unusedSimpArgs false
set_option linter.unusedVariables false
set_option maxRecDepth 100000
/- 'append(s, make([]byte, m)...)' on a row of the call's own; slices.Clone of bytes. -/
namespace Go.Proofs.YtlbldpkgnonbpaaDoor
open Go Go.RowKit
theorem zeroCells_toList (z : Value) (m : Nat) : (Builtin.zeroCells #[z] m).toList = List.replicate m z := by
 have : Builtin.zeroCells #[z] m = madeCells #[z] m := by simp [Builtin.zeroCells, madeCells]
 rw [this, toList_madeCells_one]
section
variable {P : Program} (w : World)
theorem run_append_zeros (base : Nat) (t it ty e : TypeId) (i : TypeInfo) (ht : P.underlying t = some (.slice e)) (hit : P.underlying it = some (.int .i64)) (hi : P.info? e = some i) (hz : i.zero = some (.int .u8 0)) (hsize : i.size = 1) (hby : i.bytes = 1)
    (g n cap : Nat) (xs : List Value) (hown : w.ownsRow base e 1 (.slice (some ⟨g, 0, none⟩) n cap) n xs) (m : Nat) (hm : n + m ≤ 1000000) (hbase : base ≤ w.heap.size) :
    ∃ v' w', (Builtin.append_ #[t, it] ty #[.slice (some ⟨g, 0, none⟩) n cap, .int .i64 m]).run P w = .ok v' w' ∧ w'.ownsRow base e 1 v' (n + m) (xs ++ List.replicate m (Value.int .u8 0)) ∧ w.grownBy w' (some g) := by
  have hlen : (xs ++ List.replicate m (Value.int .u8 0)).length = (n + m) * 1 := by rw [List.length_append, hown.1, List.length_replicate]; omega
  have hxl : xs.length = n := by have := hown.1; omega
  have hcl : ∀ j u, xs[j]? = some u → w.cell? ((⟨g, 0, none⟩ : Addr).add j) = some u := World.ownsRow.cells hown (g := g) rfl
  have hzc : (Value.int IntKind.u8 0).cells = #[.int .u8 0] := rfl
  have hw : IntKind.i64.wrap (m : Int) = m := IntWalk.i64_in _ (by omega)
  have hneg : ¬ ((m : Int) < 0) := by omega
  have h48 : ¬ (281474976710656 < (m : Int)) := by omega
  have hw0 : IntKind.i64.wrap 0 = 0 := IntWalk.i64_in 0 (by omega)
  rcases hown.2 with ⟨h0, -⟩ | ⟨g', cap', cur, hv, hbg, hg, hnc, hcm, hcs, htake⟩
  · cases h0
  · injection hv with hv1 hv2 hv3
    injection hv1 with hv1
    injection hv1 with hv1
    subst hv1 hv3
    by_cases hm0 : m = 0
    · subst hm0
      refine ⟨.slice (some ⟨g, 0, none⟩) n cap, w, ?_, by simpa using hown, World.grownBy.refl w _⟩
      simp [Builtin.append_, run_underlying ht, run_underlying hit, sizeOf, typeInfo, hi, hsize, hby, asInt, asIntOf, hw0, hnc, storeCells]
    · by_cases hroom : n + m ≤ cap
      · have hst := run_storeCells_at P g n e (List.replicate m (Value.int .u8 0)) 0 cur w hg (by simp; omega) (fun u hu => by rw [List.eq_of_mem_replicate hu]; rfl)
        simp only [Nat.add_zero] at hst
        refine ⟨.slice (some ⟨g, 0, none⟩) (n + m) cap, w.setRow g (cur.toList.take n ++ List.replicate m (Value.int .u8 0) ++ cur.toList.drop (n + (List.replicate m (Value.int .u8 0)).length)).toArray, ?_, ⟨hlen, .inr ⟨g, cap, _, rfl, hbg, setRow_heap w g cur _ e _ hg, hroom, hcm, ?_, ?_⟩⟩, ⟨rfl, rfl, rfl, by simp, fun k _ hk => setRow_other w g k _ (fun e => hk (by simp [e]))⟩⟩
        · have e0 : (⟨g, 0, none⟩ : Addr).add n = ⟨g, n, none⟩ := by rw [add_plain', Nat.zero_add]
          simp [Builtin.append_, run_underlying ht, run_underlying hit, sizeOf, typeInfo, zeroValue, hi, hz, hsize, hby, asInt, asIntOf, hw, hneg, h48, hm0, hroom, hzc, zeroCells_toList, e0, hst]
        · simp; omega
        · simp only [Nat.mul_one] at htake ⊢
          rw [htake]
          exact List.take_left' (by rw [List.length_append, List.length_replicate, hxl])
      · have hge := grownCap_ge w (n + m) cap e
        have hcm2 : grownCap w (n + m) cap e ≤ maxLen := grownCap_le_maxLen w (n + m) cap e (by unfold maxLen; omega)
        have h63' : ¬ (9223372036854775807 < (n : Int) + (m : Int)) := by omega
        have h49 : ¬ (281474976710656 < Builtin.nextslicecap (n + m) cap) := by
         have := growslice_fits (bytes := 1) (need := n + m) (old := cap) (by omega) (by omega)
         omega
        have hfo := run_firstCells_some (P := P) w.drew 1 n ⟨g, 0, none⟩ n cap xs (by omega) (by simpa using hcl)
        refine ⟨.slice (some ⟨w.heap.size, 0, none⟩) (n + m) (grownCap w (n + m) cap e), w.drew.alloc (.cells (xs.toArray ++ Builtin.zeroCells #[.int .u8 0] m ++ Builtin.zeroCells #[.int .u8 0] (grownCap w (n + m) cap e - (n + m))) e), ?_, ⟨hlen, .inr ⟨w.heap.size, _, _, rfl, hbase, heap_alloc_new w.drew _, hge, hcm2, ?_, ?_⟩⟩, ⟨rfl, rfl, rfl, by simp, fun k hk _ => heap_alloc_old w.drew _ (show k < w.drew.heap.size from hk)⟩⟩
        · simp [Builtin.append_, run_underlying ht, run_underlying hit, sizeOf, typeInfo, zeroValue, hi, hz, hsize, hby, asInt, asIntOf, hw, hneg, h48, hm0, hroom, hzc, h63', h49, Question.forced, hfo, newRow, grownCap]
        · simp only [Array.size_append, List.size_toArray, size_zeroCells, hxl]
          simp
          omega
        · simp only [Array.toList_append, zeroCells_toList, Nat.mul_one]
          exact List.take_left' (by simp [hxl])
end
end Go.Proofs.YtlbldpkgnonbpaaDoor
/- slices.Clone of bytes; digest.padded. -/
namespace Go.Proofs.YtlbldpkgnonbpaaDoor
open Go Go.RowKit Sha
def OwnB (w : World) (n₀ : Nat) (v : Value) (xs : List Int) : Prop := w.ownsRow n₀ 5 1 v xs.length (xs.map (Value.int .u8))
theorem OwnB.keep {w w' : World} {n₀ : Nat} {v : Value} {xs : List Int} (h : OwnB w n₀ v xs) (hb : Below w.heap.size w w') : OwnB w' n₀ v xs :=
  World.ownsRow.kept (row := none) h ⟨hb.os, hb.tape, hb.output, hb.size, fun k hk _ => hb.block k hk⟩ (by
   by_cases e : v.ownBlock = none
   · exact .inl e
   · exact .inr e)
theorem OwnB.some {w : World} {n₀ : Nat} {v : Value} {xs : List Int} (h : OwnB w n₀ v xs) (h1 : 1 ≤ xs.length) : ∃ g cap, v = .slice (some ⟨g, 0, none⟩) xs.length cap ∧ n₀ ≤ g ∧ g < w.heap.size := by
 rcases h.2 with ⟨-, h0⟩ | ⟨g, cap, cur, rfl, b, c, d⟩
 · omega
 · exact ⟨g, cap, rfl, World.ownsRow.lt h g rfl⟩
theorem OwnB.grow {w0 w w' : World} {n₀ : Nat} {v : Value} {xs : List Int} (hb : Below n₀ w0 w) (h : OwnB w n₀ v xs) (hg : w.grownBy w' v.ownBlock) (hn : n₀ ≤ w.heap.size) : Below n₀ w0 w' :=
  hb.grown hg hn (fun k hk => (World.ownsRow.lt h k hk).1)
theorem OwnB.shi {w : World} {n₀ : Nat} {v : Value} {xs : List Int} (h : OwnB w n₀ v xs) : ∃ a c, v = .slice a xs.length c ∧ ShI .u8 w a xs.length xs := ShI.of_owned h
section
variable {P : Program} {w : World} {ops : Array Oper} {rest : List Oper} {o : Oper} {a : Act} {Q : Exit → Act → World → Prop}
theorem wpL_append_zeros (hgd : o.guard = none) (s x : Operand) (t it : TypeId) (ho : o.op = .call { callee := .builtin .append, args := #[s, x], argTypes := #[t, it] })
    (base : Nat) (e : TypeId) (i : TypeInfo) (ht : P.underlying t = some (.slice e)) (hit : P.underlying it = some (.int .i64)) (hi : P.info? e = some i) (hz : i.zero = some (.int .u8 0)) (hsize : i.size = 1) (hby : i.bytes = 1)
    (g n cap m : Nat) (xs : List Value) (hs : a.eval s = .slice (some ⟨g, 0, none⟩) n cap) (hx : a.eval x = .int .i64 m) (hown : w.ownsRow base e 1 (.slice (some ⟨g, 0, none⟩) n cap) n xs) (hm : n + m ≤ 1000000) (hbase : base ≤ w.heap.size)
    (h : ∀ v' w', w'.ownsRow base e 1 v' (n + m) (xs ++ List.replicate m (Value.int .u8 0)) → w.grownBy w' (some g) → wpList P ops Q rest (a.put o.dst v') w') : wpList P ops Q (o :: rest) a w := by
  refine wpList_plain hgd fun K hK => ?_
  obtain ⟨v', w', hr, h2, h3⟩ := run_append_zeros (P := P) w base t it o.type e i ht hit hi hz hsize hby g n cap xs hown m hm hbase
  unfold Oper.wp execOp
  simp only [ho, resolve, invoke, builtin, Sem.run_bind, Sem.run_pure, Result.andThen_ok, List.map_toArray, List.map_cons, List.map_nil, hs, hx, hr]
  exact hK _ _ (h v' w' h2 h3)
end
set_option maxHeartbeats 2000000 in
theorem bclone_any {a : Option Addr} {n c : Nat} {xs : List Int} (w : World) (h : ShI .u8 w a n xs) (hn : n ≤ 100000) :
    Calls Tryd.prog 108 #[.slice a n c] w fun e w' => ∃ v, e = .returned v ∧ OwnB w' w.heap.size v xs ∧ Below w.heap.size w w' := by
  obtain ⟨i0, hi, hz0, hz1, hz2⟩ := info_parts (P := Tryd.prog) (e := 5) (z := .int .u8 0) (size := 1) (bytes := 1) (by kernel_rfl)
  have HS := Lh h
  have hl := h.len
  have qT : ∀ (w : World) (a : Option Addr) (n c n' c' : Nat), (binOp .eql 30 (.slice a n c) (.slice none n' c')).run Tryd.prog w = .ok (.bool a.isNone) w := fun w a n c n' c' => Lib.run_eql_slice_nil w _ _ a n c n' c' Tryd.underlying30
  cases a with
  | none =>
   have hx : xs = [] := by
    rcases h with ⟨-, h⟩ | ⟨s, o, h0, -⟩
    · exact h
    · cases h0
   subst hx
   go_enter Tryd.func108, Tryd.ntmps108
   go_wp2_with fail
   go_ret
   exact ⟨_, rfl, World.ownsRow_nil _ _ _ _, Below.refl _ _⟩
  | some ad =>
   have HL := Lh (show (xs.map (Value.int IntKind.u8)).length = n * 1 by rw [List.length_map, ← hl, Nat.mul_one])
   have HLN := Lh hl
   clear hl h
   go_enter Tryd.func108, Tryd.ntmps108
   go_wp2_with (at_builtin; refine wpList_append_own _ rfl _ _ 30 rfl w.heap.size 5 i0 (.int .u8 0) 1 1 Tryd.underlying30 hi hz0 hz1 hz2 rfl (by decide) _ 0 [] rfl (World.ownsRow_lit w #[] 0 (Nat.le_refl _) (by decide) rfl) _ n c (xs.map (Value.int IntKind.u8)) rfl HL.o (HS.o.keep ((Below.refl _ _).alloc (Nat.le_refl _) _)).cells (fun u hu => by obtain ⟨x, -, rfl⟩ := List.mem_map.1 hu; rfl) (by unfold maxLen; omega) (by omega) (by simp) ?_; intro v' w1 hown hgr hnil; have HOWN := Lh hown; have HGR := Lh hgr; clear hown hgr hnil)
   go_ret
   have hb := Below.grown ((Below.refl w.heap.size w).alloc (Nat.le_refl _) _) HGR.o (by simp) (fun j hj => by have e : Option.some w.heap.size = Option.some j := hj; injection e with e; omega)
   refine ⟨_, rfl, ?_, hb⟩
   have h9 := HOWN.o
   rw [Nat.zero_add, List.nil_append] at h9
   unfold OwnB
   rw [← HLN.o]
   exact h9
theorem OwnB.snoc {w' : World} {n₀ : Nat} {v' : Value} {xs : List Int} {x : Int} (h : w'.ownsRow n₀ 5 1 v' (xs.length + 1) (xs.map (Value.int .u8) ++ [.int .u8 x])) : OwnB w' n₀ v' (xs ++ [x]) := by
 unfold OwnB
 simpa using h
theorem OwnB.zeros {w' : World} {n₀ m : Nat} {v' : Value} {xs : List Int} (h : w'.ownsRow n₀ 5 1 v' (xs.length + m) (xs.map (Value.int .u8) ++ List.replicate m (.int .u8 0))) : OwnB w' n₀ v' (xs ++ List.replicate m 0) := by
 unfold OwnB
 simpa using h
structure Grew (w0 w : World) (n₀ : Nat) (v : Value) (xs : List Int) : Prop where
  own : OwnB w n₀ v xs
  bel : Below n₀ w0 w
  le : n₀ ≤ w.heap.size
theorem Grew.first {w w' : World} {n : Nat} {v' : Value} {xs : List Int} {ob : Obj} (hn : n = xs.length) (hown : w'.ownsRow w.heap.size 5 1 v' (0 + n) ([] ++ xs.map (Value.int .u8))) (hg : (w.alloc ob).grownBy w' (Option.some w.heap.size)) : Grew w w' w.heap.size v' xs :=
  ⟨by unfold OwnB; subst hn; simpa using hown, Below.grown ((Below.refl _ _).alloc (Nat.le_refl _) ob) hg (by simp) (fun k hk => by injection hk with hk; omega), Nat.le_trans (by simp) hg.size⟩
theorem Grew.leA {w0 w : World} {n₀ : Nat} {v : Value} {xs : List Int} (h : Grew w0 w n₀ v xs) (ob : Obj) : n₀ ≤ (w.alloc ob).heap.size := Nat.le_trans h.le (by simp)
theorem Grew.snoc {w0 w w' : World} {n₀ : Nat} {v v' : Value} {xs : List Int} {x : Int} {ob : Obj} (h : Grew w0 w n₀ v xs) (hown : w'.ownsRow n₀ 5 1 v' (xs.length + 1) (xs.map (Value.int .u8) ++ [.int .u8 x])) (hg : (w.alloc ob).grownBy w' v.ownBlock) : Grew w0 w' n₀ v' (xs ++ [x]) :=
  have hb := OwnB.grow (h.bel.alloc h.le ob) (h.own.keep ((Below.refl _ _).alloc (Nat.le_refl _) ob)) hg (Nat.le_trans h.le (by simp))
  ⟨OwnB.snoc hown, hb, Nat.le_trans h.le (Nat.le_trans (by simp) hg.size)⟩
theorem Grew.zeros {w0 w w' : World} {n₀ m : Nat} {v v' : Value} {xs : List Int} {g : Nat} (h : Grew w0 w n₀ v xs) (hown : w'.ownsRow n₀ 5 1 v' (xs.length + m) (xs.map (Value.int .u8) ++ List.replicate m (.int .u8 0))) (hg : w.grownBy w' (Option.some g)) (hv : v.ownBlock = Option.some g) : Grew w0 w' n₀ v' (xs ++ List.replicate m 0) :=
  ⟨OwnB.zeros hown, OwnB.grow h.bel h.own (hv ▸ hg) h.le, Nat.le_trans h.le hg.size⟩
def padN (xs : List Int) (n k : Nat) : List Int := xs ++ [128] ++ List.replicate (zerosN n) 0 ++ (be8 (n * 8)).take k
theorem padN_zero (xs : List Int) (n : Nat) : padN xs n 0 = xs ++ [128] ++ List.replicate (zerosN n) 0 := by simp [padN]
theorem padN_len (xs : List Int) (n k : Nat) : (padN xs n k).length = xs.length + 1 + zerosN n + min k 8 := by simp [padN, be8_len]; omega
theorem padN_all (xs : List Int) : padN xs xs.length 8 = padS xs := by
 rw [padN, padS, List.take_of_length_le (by rw [be8_len]; exact Nat.le_refl _)]; simp
theorem padN_succ (xs : List Int) (n k : Nat) (hk : k < 8) {x : Int} (hx : x = (n : Int) * 8 / 2 ^ (56 - 8 * k) % 256) : padN xs n k ++ [x] = padN xs n (k + 1) := by
 subst hx
 rw [padN, padN, List.take_succ_eq_append_getElem (by rw [be8_len]; exact hk), List.append_assoc _ _ [_]]
 simp [be8]
set_option maxHeartbeats 4000000 in
theorem dpadded_any {a : Option Addr} {n c : Nat} {xs : List Int} (w : World) (h : ShI .u8 w a n xs) (hn : n ≤ 100000) :
    Calls Tryd.prog 91 #[.slice a n c] w fun e w' => ∃ v, e = .returned v ∧ OwnB w' w.heap.size v (padS xs) ∧ Below w.heap.size w w' := by
  obtain ⟨i0, hi, hz0, hz1, hz2⟩ := info_parts (P := Tryd.prog) (e := 5) (z := .int .u8 0) (size := 1) (bytes := 1) (by kernel_rfl)
  have HS := Lh h
  have HL := Lh h.len
  clear h
  go_enter Tryd.func91, Tryd.ntmps91
  go_wp2_with fail
  refine (bclone_any _ HS.o hn).mono ?_
  rintro e w1 ⟨v1, rfl, O1, B1⟩
  have HG := Lh (show Grew w w1 w.heap.size v1 xs from ⟨O1, B1, B1.size⟩)
  clear O1 B1
  have HZN := Lh (show -(((n : Int) + 9) % 64) % 64 = ((zerosN n : Nat) : Int) by unfold zerosN; omega)
  have HZM := Lh (show (64 - ((n : Int) + 9) % 64) % 64 = ((zerosN n : Nat) : Int) by unfold zerosN; omega)
  have HMN := Lh (show zerosN n < 64 by unfold zerosN; omega)
  have HAL := Lh (show ∀ ob, w.heap.size ≤ (w1.alloc ob).heap.size from fun ob => Nat.le_trans HG.o.le (by simp))
  have HXM := Lh (show xs.length + 1 ≤ maxLen by have := HL.o; unfold maxLen; omega)
  have HXB := Lh (show (xs.length + 1) * 1 ≤ 140737488355328 by have := HL.o; omega)
  have HZB := Lh (show (xs ++ [(128 : Int)]).length + zerosN n ≤ 1000000 by have := HL.o; have := HMN.o; simp; omega)
  go_wp2_with (first
    | (at_builtin; refine wpList_append_own _ rfl _ _ 30 rfl w.heap.size 5 i0 (.int .u8 0) 1 1 Tryd.underlying30 hi hz0 hz1 hz2 rfl (by decide) _ xs.length (xs.map (Value.int .u8)) rfl (HG.o.own.keep ((Below.refl _ _).alloc (Nat.le_refl _) _)) _ 1 1 [.int .u8 128] rfl rfl (fun j u hj => by cases j with | zero => simp at hj; subst hj; simp [go_sem] | succ j => simp at hj) (fun u hu => by simp at hu; subst hu; rfl) HXM.o HXB.o (HAL.o _) ?_; intro v2 w2 hown hgr hnil; have HG2 := Lh (HG.o.snoc hown hgr); clear hown hgr hnil)
    | (at_builtin; obtain ⟨g, cap, hv, -, -⟩ := HG2.o.own.some (by simp); subst hv; (refine wpL_append_zeros rfl _ _ 30 3 rfl w.heap.size 5 i0 Tryd.underlying30 Tryd.underlying3 hi hz0 hz1 hz2 g _ cap (zerosN n) _ rfl (congrArg (Value.int .i64) HZM.o) HG2.o.own HZB.o HG2.o.le ?_); intro v3 w3 hown hgr; have HG3 := Lh (HG2.o.zeros hown hgr rfl); clear hown hgr)
    | (at_builtin; obtain ⟨g, cap, hv, -, -⟩ := HG2.o.own.some (by simp); subst hv; refine wpL_append_zeros rfl _ _ 30 3 rfl w.heap.size 5 i0 Tryd.underlying30 Tryd.underlying3 hi hz0 hz1 hz2 g _ cap (zerosN n) _ rfl (congrArg (Value.int .i64) HZN.o) HG2.o.own HZB.o HG2.o.le ?_; intro v3 w3 hown hgr; have HG3 := Lh (HG2.o.zeros hown hgr rfl); clear hown hgr))
  go_loopw [4, 5] (fun c4 c5 wr => ∃ k : Nat, k ≤ 8 ∧ c5 = .int .i64 (56 - 8 * (k : Int)) ∧ Hid (Grew w wr w.heap.size c4 (padN xs n k))) (fun _ c5 _ => ((intOf c5) + 8).toNat)
  case atStart => exact ⟨0, by omega, rfl, by rw [padN_zero]; exact HG3.o⟩
  case round =>
   clear HG HG2 HG3 HZN HZM HMN HAL HXM HXB HZB
   obtain ⟨k, hk, rfl, HG⟩ := hrel
   by_cases hlt : k < 8
   case neg =>
    obtain rfl : k = 8 := by omega
    rw [HL.o, padN_all] at HG
    go_wp2_with fail
    go_ret
    exact ⟨_, rfl, HG.o.own, HG.o.bel⟩
   case pos =>
    have hd : decide ((0 : Int) ≤ 56 - 8 * (k : Int)) = true := by simp; omega
    have hd2 : decide (8 * (k : Int) ≤ 56) = true := by simp; omega
    have hws : IntKind.i64.wrap (56 - 8 * (k : Int) - 8) = 56 - 8 * (k : Int) - 8 := IntWalk.i64_in _ (by omega)
    have hpl : (padN xs n k).length ≤ 200000 := by rw [padN_len]; have := HL.o; have : zerosN n < 64 := by unfold zerosN; omega
                                                   omega
    have HAL := Lh (show ∀ ob, w.heap.size ≤ (wr.alloc ob).heap.size from fun ob => Nat.le_trans HG.o.le (by simp))
    have HXM := Lh (show (padN xs n k).length + 1 ≤ maxLen by unfold maxLen; omega)
    have HXB := Lh (show ((padN xs n k).length + 1) * 1 ≤ 140737488355328 by omega)
    clear hpl
    have p0 : (0 : Int) ≤ 56 - 8 * (k : Int) := by omega
    have e0 : (56 - 8 * (k : Int)).toNat = 56 - 8 * k := by omega
    have hm0 : min (56 - 8 * k) 64 = 56 - 8 * k := by omega
    have hwn : IntKind.u64.wrap (n : Int) = n := IntWalk.u64_in _ (by omega)
    have hwm : IntKind.u64.wrap ((n : Int) * 8) = n * 8 := IntWalk.u64_in _ (by omega)
    go_wp2_with (at_builtin; (refine wpList_append_own _ rfl _ _ 30 rfl w.heap.size 5 i0 (.int .u8 0) 1 1 Tryd.underlying30 hi hz0 hz1 hz2 rfl (by decide) _ (padN xs n k).length ((padN xs n k).map (Value.int .u8)) rfl (HG.o.own.keep ((Below.refl _ _).alloc (Nat.le_refl _) _)) _ 1 1 [.int .u8 ((n : Int) * 8 / 2 ^ (56 - 8 * k) % 256)] rfl rfl (fun j u hj => by cases j with | zero => simp at hj; subst hj; simp [go_sem] | succ j => simp at hj) (fun u hu => by simp at hu; subst hu; rfl) HXM.o HXB.o (HAL.o _) ?_); intro v4 w4 hown hgr hnil; have HG4 := Lh (HG.o.snoc hown hgr); clear hown hgr hnil)
    go_roundw
    case rel => exact ⟨k + 1, by omega, by go_num, by rw [← padN_succ xs n k hlt rfl]; exact HG4.o⟩
    case measure => simp [intOf]; omega
end Go.Proofs.YtlbldpkgnonbpaaDoor
/- slices.Chunk over bytes. -/
namespace Go.Proofs.YtlbldpkgnonbpaaDoor
open Go.RowKit Go.Shelf
attribute [local go_sem] Oper.semAt_some
def firstN {α : Type} (f : Nat → α) (k : Nat) : List α := (List.range k).map f
theorem firstN_succ {α : Type} (f : Nat → α) (k : Nat) : firstN f (k + 1) = firstN f k ++ [f k] := by simp [firstN, List.range_succ]
theorem firstN_length {α : Type} (f : Nat → α) (k : Nat) : (firstN f k).length = k := by simp [firstN]
def Kp3 (A B C : Nat) (W W' : World) : Prop := (∀ o, W'.cell? ⟨A, o, none⟩ = W.cell? ⟨A, o, none⟩) ∧ (∀ o, W'.cell? ⟨B, o, none⟩ = W.cell? ⟨B, o, none⟩) ∧ ∀ o, W'.cell? ⟨C, o, none⟩ = W.cell? ⟨C, o, none⟩
theorem Kp3.refl (A B C : Nat) (W : World) : Kp3 A B C W W := ⟨fun _ => rfl, fun _ => rfl, fun _ => rfl⟩
theorem Kp3.trans {A B C : Nat} {W1 W2 W3 : World} (h : Kp3 A B C W1 W2) (k : Kp3 A B C W2 W3) : Kp3 A B C W1 W3 := ⟨fun o => (k.1 o).trans (h.1 o), fun o => (k.2.1 o).trans (h.2.1 o), fun o => (k.2.2 o).trans (h.2.2 o)⟩
theorem Kp3.put {A B C : Nat} {w : World} (hA : A < w.heap.size) (hB : B < w.heap.size) (hC : C < w.heap.size) (W : World) (l : Nat) (o o' : Obj) (hl : w.heap.size ≤ l) (h : W.heap[l]? = some o) (_ : o.isCells = false) (_ : o.isWalk = false) : Kp3 A B C W (W.putObj l o') := by
 have hg := grownBy_putObj' W l o'
 have key : ∀ b, b < w.heap.size → ∀ o, (W.putObj l o').cell? ⟨b, o, none⟩ = W.cell? ⟨b, o, none⟩ := fun b hb o => World.cell?_of_block (hg.block b (by have := (Array.getElem?_eq_some_iff.1 h).1; omega) (fun e => by cases e; omega))
 exact ⟨key A hA, key B hB, key C hC⟩
theorem Kp3.below {A B C : Nat} {W W' : World} (h : Below W.heap.size W W') (hA : A < W.heap.size) (hB : B < W.heap.size) (hC : C < W.heap.size) : Kp3 A B C W W' :=
  ⟨fun o => h.cell (p := ⟨A, o, none⟩) hA, fun o => h.cell (p := ⟨B, o, none⟩) hB, fun o => h.cell (p := ⟨C, o, none⟩) hC⟩
theorem grownBy_drewN (W : World) (k : Nat) : W.grownBy (W.drewN k) none := ⟨rfl, rfl, rfl, Nat.le_refl _, fun _ _ _ => rfl⟩
set_option maxHeartbeats 4000000 in
theorem chunk1_in (n : Nat) (hn : 1 ≤ n) (l Bs Bn b cap m : Nat) (hm : m ≤ 100000) (hcap : 64 * m ≤ cap) {α : Type} (ix : α → Nat) (f : Nat → α) (hf : ∀ k, k < m → ix (f k) = k) (J Jx : List α → World → Prop)
    (hY : ∀ pre x W, J pre W → pre.length < m → YieldAt Fence.wide (n - 1) Tryd.prog l #[.slice (some ⟨b, 64 * ix x, none⟩) 64 64] W fun e W' =>
      (e = .returned (.bool true) ∧ J (pre ++ [x]) W' ∧ Kp3 Bs Bn b W W') ∨ (e = .returned (.bool false) ∧ Jx (pre ++ [x]) W'))
    (hJd : ∀ pre W k, J pre W → J pre (W.drewN k))
    (W : World) (hBs : W.cell? ⟨Bs, 0, none⟩ = some (.slice (some ⟨b, 0, none⟩) (64 * m) cap)) (hBn : W.cell? ⟨Bn, 0, none⟩ = some (.int .i64 64)) (h0 : J [] W) :
    CallsIn Fence.wide n Tryd.prog 107 #[.func (.yield l) #[] #[], .pointer (some ⟨Bs, 0, none⟩), .pointer (some ⟨Bn, 0, none⟩)] W fun e W' => (∃ v, e = .returned v) ∧
      ((∃ ys, ys = firstN f m ∧ J ys W') ∨ (∃ pre, (∃ k, k ≤ m ∧ pre = firstN f k) ∧ Jx pre W')) := by
  refine callsIn_of_wp Tryd.func107 rfl trivial ?_ rfl
  simp only [Tryd.ntmps107, List.size_toArray, List.length_cons, List.length_nil, Nat.reduceAdd, Nat.reduceSub, Array.replicate_succ, Array.replicate_zero, List.push_toArray, List.append_toArray, List.nil_append, List.cons_append]
  gi_wp2
  gi_loopw [4] (fun i wr => ∃ k : Nat, k ≤ m ∧ i = .int .i64 ((64 * k : Nat) : Int) ∧ J (firstN f k) wr ∧ Kp3 Bs Bn b W wr) (fun i _ => 64 * m - (intOf i).toNat)
  case atStart => exact ⟨0, Nat.zero_le _, rfl, h0, Kp3.refl _ _ _ _⟩
  case round =>
   obtain ⟨k, hk, rfl, hJs, hnx⟩ := hrel
   have cs : wr.cell? ⟨Bs, 0, none⟩ = some (.slice (some ⟨b, 0, none⟩) (64 * m) cap) := (hnx.1 0).trans hBs
   have cn : wr.cell? ⟨Bn, 0, none⟩ = some (.int .i64 64) := (hnx.2.1 0).trans hBn
   obtain ⟨i, hi⟩ : ∃ i, 64 * k = i := ⟨_, rfl⟩
   rw [hi]
   by_cases hlt : k < m
   · have i0 : (0 : Int) ≤ (i : Int) := by omega
     have hl1 : (i : Int) < ((64 * m : Nat) : Int) := by omega
     have hl2 : (i : Int) ≤ ((64 * m : Nat) : Int) := by omega
     have hl4 : i < cap := by omega
     have hl3 : (i : Int) + 64 ≤ 64 * (m : Int) := by omega
     have hl5 : i ≤ cap := by omega
     have hl6 : ¬ i = cap := by omega
     have hmin : min (64 : Int) (((64 * m - i : Nat) : Nat) : Int) = 64 := by omega
     have hmin2 : min (64 : Int) (64 * (m : Int) - (i : Int)) = 64 := by omega
     have hwi : IntKind.i64.wrap ((i : Int) + 64) = (i : Int) + 64 := IntWalk.i64_in _ (by omega)
     gi_wp2_with fail
     refine wpIn_wide.2 ?_
     go_quiet (fail)
     obtain ⟨fn, tmps, assign, body, hy, hR⟩ := hY _ (f k) (wr.drewN nq) (hJd _ _ nq hJs) (by rw [firstN_length]; exact hlt)
     rw [hf k hlt, hi] at hy
     gi_wp2
     refine hR.mono ?_
     rintro e W3 (⟨rfl, hJ3, hk3⟩ | ⟨rfl, hJx3⟩)
     · have cn3 : W3.cell? ⟨Bn, 0, none⟩ = some (.int .i64 64) := (hk3.2.1 0).trans cn
       gi_wp2
       go_roundw
       case rel => exact ⟨k + 1, by omega, by go_num, by rw [firstN_succ]; exact hJ3, hnx.trans ((show Kp3 Bs Bn b wr (wr.drewN nq) from ⟨fun _ => rfl, fun _ => rfl, fun _ => rfl⟩).trans hk3)⟩
       case measure => simp [intOf]; omega
     · gi_wp2
       refine bodyPost_ret (results_none rfl _ _ _) rfl ?_
       exact ⟨⟨_, rfl⟩, .inr ⟨_, ⟨k + 1, by omega, (firstN_succ _ _).symm⟩, hJx3⟩⟩
   · obtain rfl : k = m := by omega
     subst hi
     have hl7 : ¬ (((64 * k : Nat) : Int) < 64 * (k : Int)) := by omega
     gi_wp2
     go_end0
     first | exact ⟨⟨_, rfl⟩, .inl hJs⟩ | exact ⟨⟨_, rfl⟩, .inl ⟨_, rfl, hJs⟩⟩
set_option maxHeartbeats 1000000 in
theorem chunk_in (n : Nat) (a : Option Addr) (len cap : Nat) (w : World) :
    CallsIn Fence.wide n Tryd.prog 90 #[.slice a len cap, .int .i64 64] w fun e w' => e = .returned (.func (.func 107) #[] #[.pointer (some ⟨w.heap.size, 0, none⟩), .pointer (some ⟨w.heap.size + 1, 0, none⟩)]) ∧ w' = (w.alloc (.cells #[.slice a len cap] 30)).alloc (.cells #[.int .i64 64] 3) := by
  refine callsIn_of_wp Tryd.func90 rfl trivial ?_ rfl
  simp only [Tryd.ntmps90, List.size_toArray, List.length_cons, List.length_nil, Nat.reduceAdd, Nat.reduceSub, Array.replicate_succ, Array.replicate_zero, List.push_toArray, List.append_toArray, List.nil_append, List.cons_append]
  gi_wp2
  go_ret
  exact ⟨rfl, rfl⟩
theorem chunk_stops (n : Nat) (hn : 1 ≤ n) (Bs Bn b cap m : Nat) (hm : m ≤ 100000) (hcap : 64 * m ≤ cap) {α : Type} (ix : α → Nat) (f : Nat → α) (hf : ∀ k, k < m → ix (f k) = k) (w : World) (hBs : Bs < w.heap.size) (hBn : Bn < w.heap.size) (hb : b < w.heap.size)
    (hc : w.cell? ⟨Bs, 0, none⟩ = some (.slice (some ⟨b, 0, none⟩) (64 * m) cap)) (hc2 : w.cell? ⟨Bn, 0, none⟩ = some (.int .i64 64)) :
    SeqStopsK Fence.wide n Tryd.prog 107 #[.pointer (some ⟨Bs, 0, none⟩), .pointer (some ⟨Bn, 0, none⟩)] (fun x : α => #[Value.slice (some ⟨b, 64 * ix x, none⟩) 64 64]) (Kp3 Bs Bn b) (fun ys => ys = firstN f m) (fun pre => ∃ k, k ≤ m ∧ pre = firstN f k) m w := fun l J Jx W hW hJo _ hY h0 => by
  have hc' := (hW.cell (p := ⟨Bs, 0, none⟩) hBs).trans hc
  have hc2' := (hW.cell (p := ⟨Bn, 0, none⟩) hBn).trans hc2
  refine (chunk1_in n hn l Bs Bn b cap m hm hcap ix f hf J Jx hY (fun pre W k h => hJo pre W (W.drewN k) none h (grownBy_drewN W k) (fun r e => by cases e)) W hc' hc2' h0).mono ?_
  rintro e W' ⟨he, ⟨ys, rfl, hj⟩ | ⟨pre, hk, hj⟩⟩
  · exact ⟨he, .inl ⟨_, rfl, hj⟩⟩
  · exact ⟨he, .inr ⟨_, hk, hj⟩⟩
end Go.Proofs.YtlbldpkgnonbpaaDoor
/- digest.sum, digest.Sum: the digest of bytes. -/
namespace Go.Proofs.YtlbldpkgnonbpaaDoor
open Go Go.RowKit Go.Shelf Sha
attribute [local go_sem] Oper.semAt_some
theorem wpListIn_of {P : Program} {ops : Array Oper} {Q : Exit → Act → World → Prop} {l n : Nat} : ∀ (os : List Oper) (a : Act) (w : World), (∀ o ∈ os, Op.noDefer o.op = true) → wpList P ops (OnlyN Q) os a w → wpListIn (Fence.wide.inRound l) n P ops Q os a w
  | [], _, _, _, h => h
  | o :: rest, a, w, hd, h => by
   simp only [wpList] at h
   unfold wpListIn
   by_cases hw : Region.wanted o (yielded ops a.tmps) = true
   · rw [if_pos hw] at h
     rw [if_pos hw]
     rcases h with h | h
     · exact Oper.wpIn_mono (fun a' w' h' => wpListIn_of rest a' w' (fun x hx => hd x (List.mem_cons_of_mem _ hx)) h') (oper_in (hd o (List.mem_cons_self ..)) h)
     · exact (OnlyN.never h.2).elim
   · rw [if_neg hw] at h
     rw [if_neg hw]
     exact ⟨fun _ _ => trivial, wpListIn_of rest _ _ (fun x hx => hd x (List.mem_cons_of_mem _ hx)) h⟩
theorem OwnB.cap {w : World} {n₀ g n cap : Nat} {xs : List Int} (h : OwnB w n₀ (.slice (Option.some ⟨g, 0, none⟩) n cap) xs) : xs.length ≤ cap := by
 rcases h.2 with ⟨h0, -⟩ | ⟨g', cap', cur, hv, -, -, hc, -⟩
 · cases h0
 · injection hv with _ _ h3
   subst h3
   exact hc
theorem OwnB.at {w : World} {n₀ g cap : Nat} {xs : List Int} (h : OwnB w n₀ (.slice (Option.some ⟨g, 0, none⟩) xs.length cap) xs) (i : Nat) (hi : i < xs.length) : w.cell? ⟨g, i, none⟩ = Option.some (.int .u8 (xs.getD i 0)) := by
 have h2 := World.ownsRow.cellAt h i (by omega)
 rw [h2]
 simp [List.getD_eq_getElem?_getD, hi]
theorem below_from {B n : Nat} {W W' : World} (h : Below n W W') (hn : W.heap.size ≤ n) : KeepsFrom B W W' :=
  ⟨h.size, fun k o _ hk ho => by
   have := (Array.getElem?_eq_some_iff.1 hk).1
   rw [h.block k (by omega)]; exact hk⟩
def outN (s : S8) (i : Nat) : List Int := (outOf s).take (4 * i) ++ List.replicate (32 - 4 * i) 0
theorem outN_all (s : S8) : outN s 8 = outOf s := rfl
theorem outN_len (s : S8) (i : Nat) (hi : i ≤ 8) : (outN s i).length = 32 := by simp [outN, outOf_len]; omega
theorem outN_lo (s : S8) (i o : Nat) (h : o < 4 * i) (hi : i ≤ 8) : (outN s i).getD o 0 = (outOf s).getD o 0 := by
 simp only [outN, List.getD_eq_getElem?_getD, List.getElem?_append, List.length_take, outOf_len]
 rw [if_pos (by omega), List.getElem?_take_of_lt h]
theorem outN_hi (s : S8) (i o : Nat) (h : 4 * i ≤ o) : (outN s i).getD o 0 = 0 := by
 simp only [outN, List.getD_eq_getElem?_getD, List.getElem?_append, List.length_take, outOf_len]
 rw [if_neg (by omega), List.getElem?_replicate]
 split <;> rfl
theorem outOf_at (s : S8) {i t : Nat} (hi : i < 8) (ht : t < 4) : (outOf s).getD (4 * i + t) 0 = [s.l.getD i 0 / 16777216 % 256, s.l.getD i 0 / 65536 % 256, s.l.getD i 0 / 256 % 256, s.l.getD i 0 % 256].getD t 0 := by
 have h1 : i = 0 ∨ i = 1 ∨ i = 2 ∨ i = 3 ∨ i = 4 ∨ i = 5 ∨ i = 6 ∨ i = 7 := by omega
 have h2 : t = 0 ∨ t = 1 ∨ t = 2 ∨ t = 3 := by omega
 rcases h1 with rfl | rfl | rfl | rfl | rfl | rfl | rfl | rfl <;> rcases h2 with rfl | rfl | rfl | rfl <;> rfl
theorem Arr.outs {w w' : World} {b i : Nat} {s : S8} {x : Int} (h : Arr .u8 w b (outN s i)) (hL : Laid .u8 w w' b (4 * i) [x / 16777216 % 256, x / 65536 % 256, x / 256 % 256, x % 256]) (hi : i < 8) (hx : s.l.getD i 0 = x) : Arr .u8 w' b (outN s (i + 1)) := by
 subst hx
 refine ⟨fun o ho => ?_, fun o => (hL.frozen _).trans (h.f o), by rw [hL.size]; exact h.lt⟩
 rw [outN_len s (i + 1) (by omega)] at ho
 by_cases h1 : o < 4 * i
 · rw [outN_lo s (i + 1) o (by omega) (by omega), ← outN_lo s i o h1 (by omega)]
   exact (hL.beside o (.inl h1)).trans (h.c o (by rw [outN_len s i (by omega)]; omega))
 · by_cases h2 : o < 4 * i + 4
   · have h3 := hL.row (o - 4 * i) (by show o - 4 * i < 4; omega)
     rw [show 4 * i + (o - 4 * i) = o by omega, ← outOf_at s hi (by omega), show 4 * i + (o - 4 * i) = o by omega] at h3
     rw [outN_lo s (i + 1) o (by omega) (by omega)]
     exact h3
   · rw [outN_hi s (i + 1) o (by omega), ← outN_hi s i o (by omega)]
     exact (hL.beside o (.inr (by show 4 * i + 4 ≤ o; omega))).trans (h.c o (by rw [outN_len s i (by omega)]; omega))
theorem wpL_copyArr {P : Program} {w : World} {o : Oper} {ops : Array Oper} {rest : List Oper} {a : Act} {Q : Exit → Act → World → Prop} (hgd : o.guard = none) (d s : Operand) (dT sT : TypeId)
    (ho : o.op = .call { callee := .builtin .copy, args := #[d, s], argTypes := #[dT, sT] }) (elem : TypeId) (hu : P.underlying dT = some (.slice elem)) (hsz : (P.info? elem).map (·.size) = some 1)
    (k : IntKind) (b c q q' dLen dCap sLen sCap : Nat) (hd : a.eval d = .slice (some ⟨b, q, none⟩) dLen dCap) (hs : a.eval s = .slice (some ⟨c, q', none⟩) sLen sCap)
    (xs : List Int) (hn : xs.length = Nat.min sLen dLen) (hsrc : ∀ i, i < xs.length → w.cell? ⟨c, q' + i, none⟩ = some (.int k (xs.getD i 0)))
    (hc : ∀ i, i < xs.length → (w.cell? ⟨b, q + i, none⟩).isSome = true) (hf : ∀ i, i < xs.length → w.frozen? ⟨b, q + i, none⟩ = false)
    (h : ∀ w', Laid k w w' b q xs → wpList P ops Q rest (a.put o.dst (goInt xs.length)) w') : wpList P ops Q (o :: rest) a w :=
  wpList_plain hgd fun _ hK => wp_copyArr d s dT sT ho elem hu hsz k b c q q' dLen dCap sLen sCap hd hs xs hn hsrc hc hf fun w' hw => hK _ _ (h w' hw)
abbrev Chk (m : Nat) := { x : Nat // x < m }
def chkOf {m : Nat} (hm : 0 < m) (k : Nat) : Chk m := ⟨k % m, Nat.mod_lt _ hm⟩
theorem chkOf_val {m : Nat} (hm : 0 < m) {k : Nat} (hk : k < m) : (chkOf hm k).1 = k := Nat.mod_eq_of_lt hk
def stAll {m : Nat} (p : List Int) (pre : List (Chk m)) : S8 := pre.foldl (fun s x => stepS p (64 * x.1) s) firstS
theorem stAll_push {m : Nat} (p : List Int) (pre : List (Chk m)) (x : Chk m) : stAll p (pre ++ [x]) = stepS p (64 * x.1) (stAll p pre) := by simp [stAll]
theorem stAll_firstN {m : Nat} (p : List Int) (hm : 0 < m) : ∀ k, k ≤ m → stAll p (firstN (chkOf hm) k) = blocks p k
  | 0, _ => rfl
  | k + 1, hk => by rw [firstN_succ, stAll_push, stAll_firstN p hm k (by omega), chkOf_val hm (by omega)]; rfl
structure SumIn (W : World) (Bo Bt g : Nat) (st : List Int) (p : List Int) : Prop where
  fo : Arr .u8 W Bo (List.replicate 32 0)
  ft : Arr .u32 W Bt st
  fp : ∀ i, i < p.length → W.cell? ⟨g, i, none⟩ = some (.int .u8 (p.getD i 0))
  lt : g < W.heap.size
theorem SumIn.keep {W W' : World} {Bo Bt g : Nat} {st p : List Int} (h : SumIn W Bo Bt g st p) (hb : Below W.heap.size W W') : SumIn W' Bo Bt g st p :=
  ⟨h.fo.keep hb, h.ft.keep hb, fun i hi => (hb.cell (p := ⟨g, i, none⟩) h.lt).trans (h.fp i hi), Nat.lt_of_lt_of_le h.lt hb.size⟩
theorem Arr.below {k : IntKind} {w w' : World} {b n : Nat} {xs : List Int} (h : Arr k w b xs) (hb : Below n w w') (hn : b < n) : Arr k w' b xs :=
  ⟨fun i hi => (hb.cell (p := ⟨b, i, none⟩) hn).trans (h.c i hi), fun i => (hb.frozen (p := ⟨b, i, none⟩) hn).trans (h.f i), Nat.lt_of_lt_of_le h.lt hb.size⟩
theorem SumIn.below {W W' : World} {Bo Bt g n : Nat} {st p : List Int} (h : SumIn W Bo Bt g st p) (hb : Below n W W') (h1 : Bo < n) (h2 : Bt < n) (h3 : g < n) : SumIn W' Bo Bt g st p :=
  ⟨h.fo.below hb h1, h.ft.below hb h2, fun i hi => (hb.cell (p := ⟨g, i, none⟩) h3).trans (h.fp i hi), Nat.lt_of_lt_of_le h.lt hb.size⟩
theorem SumIn.laid {W W' : World} {Bo Bt g : Nat} {st ys p : List Int} (h : SumIn W Bo Bt g st p) (hL : Laid .u32 W W' Bt 0 ys) (h1 : Bo ≠ Bt) (h2 : g ≠ Bt) : SumIn W' Bo Bt g ys p :=
  ⟨h.fo.laid hL h1, h.ft.whole hL, fun i hi => (hL.cell _ _ h2).trans (h.fp i hi), by rw [hL.size]; exact h.lt⟩
theorem SumIn.blk {W : World} {Bo Bt g : Nat} {st p : List Int} (h : SumIn W Bo Bt g st p) (hp : ∀ i, 0 ≤ p.getD i 0 ∧ p.getD i 0 < 256) {x : Nat} (hx : 64 * x + 64 ≤ p.length) : Blk W g (64 * x) p (64 * x) :=
  ⟨fun i hi => h.fp _ (by omega), h.lt, hp⟩
theorem Tabs.keep {w w' : World} (h : Tabs w) {n : Nat} (hb : Below n w w') (hn : w.heap.size ≤ n) : Tabs w' := h.below (hb.mono hn)
def ByteL (xs : List Int) : Prop := ∀ x, x ∈ xs → 0 ≤ x ∧ x < 256
theorem ByteL.get {xs : List Int} (h : ByteL xs) (i : Nat) : 0 ≤ xs.getD i 0 ∧ xs.getD i 0 < 256 := by
 by_cases hi : i < xs.length
 · rw [List.getD_eq_getElem?_getD, List.getElem?_eq_getElem hi]; exact h _ (List.getElem_mem hi)
 · rw [List.getD_eq_getElem?_getD, List.getElem?_eq_none (by omega)]; simp
theorem padS_bytes {xs : List Int} (h : ByteL xs) : ByteL (padS xs) := by
 intro x hx
 simp only [padS, List.mem_append, List.mem_cons, List.mem_replicate, be8, List.mem_map] at hx
 rcases hx with hx | rfl | ⟨-, rfl⟩ | ⟨i, -, rfl⟩
 · exact h x hx
 · omega
 · omega
 · omega
set_option maxHeartbeats 8000000 in
theorem dsum_any {a : Option Addr} {n c : Nat} {xs : List Int} (w : World) (hT : Tabs w) (h : ShI .u8 w a n xs) (hn : n ≤ 100000) (hB : ByteL xs) :
    Calls Tryd.prog 60 #[.slice a n c] w fun e w' => e = .returned (.agg (valV .u8 (shaS xs))) ∧ Below w.heap.size w w' := by
  have HT := Lh hT
  have HS := Lh h
  have HL := Lh h.len
  have HBY := Lh (padS_bytes hB).get
  clear h hT hB
  refine (callsIn_wide (n := 6)).1 ?_
  refine callsIn_of_wp_marks Tryd.func60 rfl trivial ?_ rfl
  simp only [Tryd.ntmps60, List.size_toArray, List.length_cons, List.length_nil, Nat.reduceAdd, Nat.reduceSub, Array.replicate_succ, Array.replicate_zero, List.push_toArray, List.append_toArray, List.nil_append, List.cons_append]
  refine wpIn_wide.2 ?_
  go_wp2_with (first
    | (refine wpL_allocArr rfl 37 .u8 32 rfl (by kernel_rfl) ?_; intro w1 h1; have F_o := Lh h1.arr; have HB1 := Lh (h1.below _ (Nat.le_refl _)); clear h1; simp only [Act.put, sZ])
    | (refine wpList_loadArr rfl 126 _ rfl .u32 0 0 firstS.l 8 125 rfl Tryd.underlying126 (by kernel_rfl) (fun i hi => by rw [Nat.zero_add]; exact (HT.o.below HB1.o).f i hi) ?_; simp only [Act.put, sZ])
    | (refine wpL_allocArr rfl 126 .u32 8 rfl (by kernel_rfl) ?_; intro w2 h2; have ne_o_t := Nat.ne_of_lt F_o.o.lt; have le_t := HB1.o.size; replace F_o := Lh (F_o.o.keep (h2.below _ (Nat.le_refl _))); have F_t := Lh h2.arr; have HB2 := Lh (HB1.o.trans (h2.below _ HB1.o.size)); clear h2; simp only [Act.put, sZ])
    | (refine wpL_storeArr rfl 126 .u32 _ _ _ firstS.l _ rfl rfl rfl rfl (by kernel_rfl) F_t.o rfl ?_; intro w3 h3; replace F_o := Lh (F_o.o.laid h3 ne_o_t); replace F_t := Lh (F_t.o.whole h3); have HB3 := Lh (HB2.o.trans (h3.below _ le_t)); clear h3))
  refine (dpadded_any _ (HS.o.keep HB3.o) hn).mono ?_
  rintro e w4 ⟨v, rfl, O4, B4⟩
  obtain ⟨g, cap, rfl, hg1, hg2⟩ := O4.some (by rw [padS_len]; omega)
  obtain ⟨m, hm⟩ : ∃ m, (padS xs).length = 64 * m := ⟨(padS xs).length / 64, by have := padS_mod xs; omega⟩
  have hm0 : 0 < m := by rw [padS_len] at hm; omega
  have hm1 : m ≤ 100000 := by have := HL.o; have hz : zerosN xs.length < 64 := by unfold zerosN; omega
                              rw [padS_len] at hm; omega
  have hcap := O4.cap
  rw [hm] at hcap
  have ne_t_g : g ≠ w1.heap.size := by have := F_t.o.lt; omega
  have hgw : w.heap.size ≤ g := Nat.le_trans HB3.o.size hg1
  have SI := Lh (show SumIn w4 w.heap.size w1.heap.size g firstS.l (padS xs) from
    ⟨F_o.o.keep B4, F_t.o.keep B4, fun i hi => O4.at i hi, hg2⟩)
  have HB4 := Lh (HB3.o.trans (B4.mono HB3.o.size))
  have HM := Lh hm
  rw [hm]
  clear O4 B4 F_o F_t HB1 HB2 HB3 hm
  go_wp2_with fail
  refine (callsIn_wide.1 (chunk_in 1 _ _ _ _)).mono ?_
  rintro e w5 ⟨rfl, rfl⟩
  go_wp2_with fail
  have hW4 := SI.o.lt
  have ht4 := SI.o.ft.lt
  have ho4 := SI.o.fo.lt
  obtain ⟨W0, hW0⟩ : ∃ W0, (w4.alloc (.cells #[.slice (some ⟨g, 0, none⟩) (64 * m) cap] 30)).alloc (.cells #[.int .i64 64] 3) = W0 := ⟨_, rfl⟩
  have hB0 : Below w4.heap.size w4 W0 := by rw [← hW0]; exact ((Below.refl _ _).alloc (Nat.le_refl _) _).alloc (by simp) _
  have hsz : W0.heap.size = w4.heap.size + 2 := by rw [← hW0]; simp
  have cBs : W0.cell? ⟨w4.heap.size, 0, none⟩ = some (.slice (some ⟨g, 0, none⟩) (64 * m) cap) := by
   rw [← hW0, World.cell?_alloc_past _ _ _ (by simp), World.cell?_alloc_new]; rfl
  have cBn : W0.cell? ⟨w4.heap.size + 1, 0, none⟩ = some (.int .i64 64) := by
   rw [← hW0, World.cell?_alloc_at _ _ _ _ (by simp)]; rfl
  rw [hW0]
  replace SI := Lh (SI.o.keep hB0)
  replace HB4 := Lh (HB4.o.trans (hB0.mono HB4.o.size))
  have HOW : ∀ (pre : List (Chk m)) (A B : World) row, (SumIn A w.heap.size w1.heap.size g (stAll (padS xs) pre).l (padS xs) ∧ W0.heap.size ≤ A.heap.size ∧ Below w.heap.size w A) → A.grownBy B row → (∀ r, row = some r → W0.heap.size ≤ r ∧ ∃ o : Obj, A.heap[r]? = some o ∧ o.isCells = false) →
      (SumIn B w.heap.size w1.heap.size g (stAll (padS xs) pre).l (padS xs) ∧ W0.heap.size ≤ B.heap.size ∧ Below w.heap.size w B) := fun pre A B row hs hg hr => by
    have hb : Below W0.heap.size A B := (Below.refl _ _).grown hg hs.2.1 (fun k e => (hr k e).1)
    exact ⟨hs.1.below hb (by omega) (by omega) (by omega), Nat.le_trans hs.2.1 hg.size, hs.2.2.trans (hb.mono (by omega))⟩
  refine (wpIn_wide (n := 6)).1 ?_
  refine wpIn_rangeFunc_ownG rfl (by omega) (gf := 107) (lb := #[.pointer (some ⟨w4.heap.size, 0, none⟩), .pointer (some ⟨w4.heap.size + 1, 0, none⟩)]) rfl trivial (enters_of Tryd.func107 (by kernel_rfl) rfl)
    (chunk_stops (6 - 1) (by omega) w4.heap.size (w4.heap.size + 1) g cap m hm1 hcap (fun x : Chk m => x.1) (chkOf hm0) (fun k hk => chkOf_val hm0 hk) W0 (by omega) (by omega) (by omega) cBs cBn)
    (fun h k => Kp3.trans h k) (fun W l o o' hl h a b => Kp3.put (w := W0) (by omega) (by omega) (by omega) W l o o' hl h a b) (Below.refl _ _) (fun _ => rfl)
    (fun pre W => SumIn W w.heap.size w1.heap.size g (stAll (padS xs) pre).l (padS xs) ∧ W0.heap.size ≤ W.heap.size ∧ Below w.heap.size w W)
    (fun _ _ _ => False)
    HOW
    (fun _ _ _ _ _ hs _ _ => hs)
    ⟨SI.o, Nat.le_refl _, HB4.o⟩
    (fun x => { tmps := #[.slice a n c, undef, .pointer (some ⟨w.heap.size, 0, none⟩), .pointer (some ⟨w1.heap.size, 0, none⟩), .slice (some ⟨g, 64 * x.1, none⟩) 64 64, undef, undef, .agg (valV .u32 firstS.l), .slice a n c, .slice (some ⟨g, 0, none⟩) (64 * m) cap, .func (.func 107) #[] #[.pointer (some ⟨w4.heap.size, 0, none⟩), .pointer (some ⟨w4.heap.size + 1, 0, none⟩)], .slice (some ⟨g, 64 * x.1, none⟩) 64 64, undef, undef, undef, undef, undef, undef, undef, undef, undef, undef, undef, undef, undef, undef, undef, undef, undef, undef, undef, undef, undef, undef, undef, undef, undef, undef], defers := [] }) ?assign ?body ?done ?stop
  case assign =>
   intro l x W K hK
   gi_wp2
   exact hK
  case stop =>
   rintro D c pre W _ _ h _
   exact h.elim
  case body =>
   rintro l pre ⟨x, hx⟩ W ⟨hSI, hsW, hB⟩ hl
   have HS1 := Lh hSI
   have HBW := Lh hB
   have HTW := Lh (HT.o.below hB)
   have HXL := Lh (show 64 * x + 64 ≤ (padS xs).length by rw [HM.o]; omega)
   clear hSI hB
   obtain ⟨st, hst⟩ : ∃ s, stAll (padS xs) pre = s := ⟨_, rfl⟩
   rw [hst] at HS1
   have HST := Lh hst
   clear hst
   gi_wp2_with (refine wpListIn_of _ _ _ (List.all_eq_true.1 (by kernel_rfl)) ?_)
   go_wp2_with (first
     | (refine wpL_loadArr rfl 126 .u32 _ w1.heap.size _ 8 125 rfl rfl Tryd.underlying126 (by kernel_rfl) HS1.o.ft ?_; simp only [Act.put, sZ])
     | (go_at_call 92; refine (dstep_any (q := 64 * x) (p := padS xs) (s := st) _ HTW.o (HS1.o.blk HBY.o HXL.o) (Nat.le_refl _)).mono ?_; rintro e w7 ⟨rfl, hb7⟩; have HS7 := Lh (HS1.o.keep hb7); have HB7 := Lh hb7; clear hb7)
     | (refine wpL_storeArr rfl 126 .u32 _ _ _ (stepS (padS xs) (64 * x) st).l _ rfl rfl rfl rfl (by kernel_rfl) HS7.o.ft rfl ?_; intro w8 h8; have HL8 := Lh h8; clear h8))
   unfold OnlyN
   gi_wp2
   have hzW := HB7.o.size
   have hneo : w.heap.size ≠ w1.heap.size := ne_o_t
   have k8 := HL8.o.cell
   refine ⟨(below_from HB7.o (Nat.le_refl _)).trans (HL8.o.oth.from _), (Kp3.below HB7.o (by omega) (by omega) (by omega)).trans ⟨fun o => k8 _ _ (by omega), fun o => k8 _ _ (by omega), fun o => k8 _ _ (by omega)⟩, ?_, by rw [HL8.o.size]; omega, (HBW.o.trans (HB7.o.mono (by omega))).trans (HL8.o.below _ le_t)⟩
   rw [stAll_push, HST.o]
   exact HS7.o.laid HL8.o ne_o_t ne_t_g
  case done =>
   rintro D ys W hD rfl ⟨hSI, hsW, hB⟩ hK
   rw [stAll_firstN _ hm0 m (Nat.le_refl _)] at hSI
   obtain ⟨s, hs⟩ : ∃ s, blocks (padS xs) m = s := ⟨_, rfl⟩
   rw [hs] at hSI
   have HZ := Lh (show outOf s = shaS xs by rw [shaS, HM.o, Nat.mul_div_cancel_left m (by decide), hs])
   clear hs
   have F_t := Lh hSI.ft
   have F_o := Lh (show Arr .u8 W w.heap.size (outN s 0) from hSI.fo)
   have HBW := Lh hB
   have HD := Lh hD
   have HK := Lh hK
   clear hSI hB hD hK
   go_wp2_with (refine wpL_loadArr rfl 126 .u32 _ w1.heap.size _ 8 125 rfl rfl Tryd.underlying126 (by kernel_rfl) F_t.o ?_; simp only [Act.put, sZ])
   go_loopw [16] (fun c16 wr => ∃ i : Nat, i ≤ 8 ∧ c16 = .int .i64 i ∧ Hid (Arr .u8 wr w.heap.size (outN s i)) ∧ Hid (Below w.heap.size w wr) ∧ Hid (wr.heap[D]? = some (.deferred (some [])))) (fun c16 _ => 8 - (intOf c16).toNat)
   case atStart => exact ⟨0, by omega, rfl, F_o.o, HBW.o, HK.o⟩
   case round =>
    clear F_o F_t HBW HK
    obtain ⟨i, hi, rfl, F_o, HBW, HK⟩ := hrel
    by_cases hlt : i < 8
    case pos =>
     have hd : decide ((i : Int) < 8) = true := by simp; omega
     have i0 : (0 : Int) ≤ (i : Int) := by omega
     obtain ⟨x, hx⟩ : ∃ x, s.l.getD i 0 = x := ⟨_, rfl⟩
     have hix : ∀ (wr : World), (Instr.index 126 (.agg (valV .u32 s.l)) (.int .i64 i)).run Tryd.prog wr = .ok (.int .u32 x) wr := fun wr => by
      have : i = 0 ∨ i = 1 ∨ i = 2 ∨ i = 3 ∨ i = 4 ∨ i = 5 ∨ i = 6 ∨ i = 7 := by omega
      subst hx
      rcases this with rfl | rfl | rfl | rfl | rfl | rfl | rfl | rfl <;> rfl
     have hw4 : IntKind.i64.wrap (4 * (i : Int)) = 4 * (i : Int) := IntWalk.i64_in _ (by omega)
     have e4 : (4 * (i : Int)).toNat = 4 * i := by omega
     have p4 : (0 : Int) ≤ 4 * (i : Int) := by omega
     have l4 : 4 * (i : Int) ≤ 32 := by omega
     have l4n : 4 * i ≤ 32 := by omega
     have l4m : ¬ 4 * i = 32 := by omega
     have l4k : 4 * i < 32 := by omega
     have hw1 : IntKind.i64.wrap ((i : Int) + 1) = (i : Int) + 1 := IntWalk.i64_in _ (by omega)
     have hmn : min 4 (32 - 4 * i) = 4 := by omega
     have HCN := Lh (show ∀ ob j, j < 4 → ((wr.alloc ob).cell? ⟨w.heap.size, 4 * i + j, none⟩).isSome = true from fun ob j hj => by
      rw [(F_o.o.alloc ob).c (4 * i + j) (by rw [outN_len s i hi]; omega)]; rfl)
     have HFN := Lh (show ∀ ob j, j < 4 → (wr.alloc ob).frozen? ⟨w.heap.size, 4 * i + j, none⟩ = false from fun ob j _ => (F_o.o.alloc ob).f _)
     have HMN := Lh (show [x / 16777216 % 256, x / 65536 % 256, x / 256 % 256, x % 256].length = Nat.min 4 (32 - 4 * i) by show 4 = min 4 (32 - 4 * i); omega)
     have HSR := Lh (show ∀ j, j < 4 → (wr.alloc (.cells (valV .u8 [x / 16777216 % 256, x / 65536 % 256, x / 256 % 256, x % 256]) 5)).cell? ⟨wr.heap.size, 0 + j, none⟩ = some (.int .u8 ([x / 16777216 % 256, x / 65536 % 256, x / 256 % 256, x % 256].getD j 0)) from fun j hj => by
      rw [Nat.zero_add]; exact (Arr.new .u8 wr _ _ _ rfl).c j hj)
     go_wp2_with (refine wpL_copyArr rfl _ _ 30 30 rfl 5 Tryd.underlying30 (by kernel_rfl) .u8 w.heap.size wr.heap.size (4 * i) 0 (32 - 4 * i) (32 - 4 * i) 4 4 rfl rfl [x / 16777216 % 256, x / 65536 % 256, x / 256 % 256, x % 256] HMN.o HSR.o (HCN.o _) (HFN.o _) ?_; intro w9 h9; have H9 := Lh h9; clear h9; simp only [Act.put, sZ])
     go_roundw
     case rel =>
      refine ⟨i + 1, by omega, by go_num, Arr.outs (F_o.o.alloc _) H9.o hlt hx, (HBW.o.alloc HBW.o.size _).trans (H9.o.below _ (Nat.le_refl _)), ?_⟩
      exact H9.o.oth.same D _ ((Below.heap_alloc _ _ _ ((Array.getElem?_eq_some_iff.1 HK.o).1)).trans HK.o) rfl
     case measure => simp [intOf]; omega
    case neg =>
     obtain rfl : i = 8 := by omega
     rw [outN_all, HZ.o] at F_o
     go_wp2_with (first
       | (refine wpL_loadArr rfl 37 .u8 _ w.heap.size _ 32 5 rfl rfl Tryd.underlying37 (by kernel_rfl) F_o.o ?_; simp only [Act.put, sZ])
       | (refine wpL_storeArr rfl 37 .u8 _ _ w.heap.size (shaS xs) _ rfl rfl rfl rfl (by kernel_rfl) F_o.o rfl ?_; intro w9 h9; have H9 := Lh h9; clear h9))
     have HK9 := Lh (H9.o.oth.same D _ HK.o rfl)
     have hBD := belowK_b (w := W0) (Nat.le_refl _) w9 D (.deferred (some [])) (.deferred none) HD.o HK9.o rfl rfl
     refine ⟨by simp, .inl ⟨_, _, rfl, run_takeDeferred HK9.o, ?_⟩⟩
     exact ⟨_, res_arr .u8 w.heap.size 0 (shaS xs) 32 5 rfl Tryd.underlying37 (by kernel_rfl) _ rfl (fun i hi => by rw [Nat.zero_add]; exact ((F_o.o.whole H9.o).below hBD (by omega)).c i hi), rfl, (HBW.o.trans (H9.o.below _ (Nat.le_refl _))).trans (hBD.mono (by omega))⟩
end Go.Proofs.YtlbldpkgnonbpaaDoor
/- digest.Sum; the reference's First, k, Padded. -/
namespace Go.Proofs.YtlbldpkgnonbpaaDoor
open Go Go.RowKit Sha
set_option maxHeartbeats 4000000 in
theorem dSum_any {a : Option Addr} {n c : Nat} {xs : List Int} (w : World) (hT : Tabs w) (h : ShI .u8 w a n xs) (hn : n ≤ 8192) (hB : ByteL xs) :
    Calls Tryd.prog 32 #[.slice a n c] w fun e w' => e = .returned (.tuple #[.agg (valV .u8 (shaS xs)), .int .i64 0]) ∧ Below w.heap.size w w' := by
  have HT := Lh hT
  have HS := Lh h
  have HBY := Lh hB
  have hd : decide ((8192 : Int) < (n : Int)) = false := by simp; omega
  clear h hT hB
  go_enter Tryd.func32, Tryd.ntmps32
  go_wp2_with (first
    | (refine wpL_allocArr rfl 37 .u8 32 rfl (by kernel_rfl) ?_; intro w1 h1; have F_o := Lh h1.arr; have HB1 := Lh (h1.below _ (Nat.le_refl _)); clear h1; simp only [Act.put, sZ])
    | (go_at_call 60; refine (dsum_any _ (HT.o.below HB1.o) (HS.o.keep HB1.o) (by omega) HBY.o).mono ?_; rintro e w2 ⟨rfl, hb2⟩; have F_2 := Lh (F_o.o.keep hb2); have HB2 := Lh (HB1.o.trans (hb2.mono HB1.o.size)); clear hb2)
    | (refine wpL_storeArr rfl 37 .u8 _ _ w.heap.size (shaS xs) _ rfl rfl rfl rfl (by kernel_rfl) F_2.o rfl ?_; intro w9 h9; have H9 := Lh h9; clear h9))
  refine bodyPost_ret (res_arr2 .u8 w.heap.size 0 (shaS xs) 32 5 rfl Tryd.underlying37 (by kernel_rfl) _ rfl rfl H9.o.row) rfl ?_
  exact ⟨rfl, HB2.o.trans (H9.o.below _ (Nat.le_refl _))⟩
def lenV : Value → Nat
  | .slice _ n _ => n
  | _ => 0
end Go.Proofs.YtlbldpkgnonbpaaDoor
/- suffrageref05.After: a block compressed into a state, the reference. -/
namespace Go.Proofs.YtlbldpkgnonbpaaDoor
open Go Go.RowKit Sha
structure AftIn (w wx : World) (Bs Br Bw : Nat) (s : S8) (ws : List Int) : Prop where
  fs : Arr .u32 wx Bs s.l
  fr : Arr .u32 wx Br (List.replicate 8 0)
  fw : Arr .u32 wx Bw ws
  sw : Bw ≠ Bs
  rw : Bw ≠ Br
  wl : w.heap.size ≤ Bw
  rl : w.heap.size ≤ Br
  bel : Below w.heap.size w wx
theorem AftIn.drewN {w wx : World} {Bs Br Bw : Nat} {s : S8} {ws : List Int} (h : AftIn w wx Bs Br Bw s ws) (n : Nat) : AftIn w (wx.drewN n) Bs Br Bw s ws :=
  ⟨h.fs.drewN n, h.fr.drewN n, h.fw.drewN n, h.sw, h.rw, h.wl, h.rl, below_drewN h.bel n⟩
theorem AftIn.set {w wx : World} {Bs Br Bw : Nat} {s : S8} {ws ws' : List Int} {i : Nat} {x : Int} (h : AftIn w wx Bs Br Bw s ws) (hi : i < ws.length) (hx : ws.set i x = ws') : AftIn w (wx.setCell ⟨Bw, i, none⟩ (.int .u32 x)) Bs Br Bw s ws' :=
  ⟨h.fs.far h.sw _, h.fr.far h.rw _, h.fw.set i hi hx, h.sw, h.rw, h.wl, h.rl, h.bel.setCell h.wl _⟩
theorem AftIn.keep {w wx wy : World} {Bs Br Bw : Nat} {s : S8} {ws : List Int} (h : AftIn w wx Bs Br Bw s ws) (hb : Below wx.heap.size wx wy) : AftIn w wy Bs Br Bw s ws :=
  ⟨h.fs.keep hb, h.fr.keep hb, h.fw.keep hb, h.sw, h.rw, h.wl, h.rl, h.bel.trans (hb.mono h.bel.size)⟩
theorem AftIn.laid {w wx wy : World} {Bs Br Bw b q : Nat} {s : S8} {ws ys : List Int} (h : AftIn w wx Bs Br Bw s ws) (hL : Laid .u32 wx wy b q ys) (hb : Bs ≠ b) (hr : Br ≠ b) (hw : Bw ≠ b) (hl : w.heap.size ≤ b) : AftIn w wy Bs Br Bw s ws :=
  ⟨h.fs.laid hL hb, h.fr.laid hL hr, h.fw.laid hL hw, h.sw, h.rw, h.wl, h.rl, h.bel.trans (hL.below _ hl)⟩
end Go.Proofs.YtlbldpkgnonbpaaDoor
/- suffrageref05.Of: the digest, the reference. -/
namespace Go.Proofs.YtlbldpkgnonbpaaDoor
open Go Go.RowKit Sha
def outB (s : S8) (i : Nat) : List Int := (outOf s).take i ++ List.replicate (32 - i) 0
structure PB (w : World) (g : Nat) (p : List Int) : Prop where
  c : ∀ i, i < p.length → w.cell? ⟨g, i, none⟩ = some (.int .u8 (p.getD i 0))
  lt : g < w.heap.size
theorem PB.keep {w w' : World} {g : Nat} {p : List Int} (h : PB w g p) (hb : Below w.heap.size w w') : PB w' g p :=
  ⟨fun i hi => (hb.cell (p := ⟨g, i, none⟩) h.lt).trans (h.c i hi), Nat.lt_of_lt_of_le h.lt hb.size⟩
theorem PB.laid {w w' : World} {k : IntKind} {g b q : Nat} {ys p : List Int} (h : PB w g p) (hL : Laid k w w' b q ys) (hn : g ≠ b) : PB w' g p :=
  ⟨fun i hi => (hL.cell _ _ hn).trans (h.c i hi), by rw [hL.size]; exact h.lt⟩
theorem PB.drew {w : World} {g : Nat} {p : List Int} (h : PB w g p) : PB w.drew g p := h.keep (Below.refl _ _).drew
theorem PB.blk {w : World} {g q : Nat} {p : List Int} (h : PB w g p) (hp : ∀ i, 0 ≤ p.getD i 0 ∧ p.getD i 0 < 256) (hx : q + 64 ≤ p.length) : Blk w g q p q :=
  ⟨fun i hi => h.c _ (by omega), h.lt, hp⟩
end Go.Proofs.YtlbldpkgnonbpaaDoor
