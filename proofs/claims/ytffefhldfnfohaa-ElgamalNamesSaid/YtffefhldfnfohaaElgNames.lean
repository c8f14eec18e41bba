/- ElgamalNames: the statement: for every input the law returns true, and the arguments read as before. -/
import Derived.Test.YtffefhldfnfohaaAux32
import Derived.Test.YtffefhldfnfohaaSumX
import Derived.Test.YtffefhldfnfohaaElgGen
import Derived.Test.YtffefhldfnfohaaOpenS
import Derived.Test.YtffefhldfnfohaaStageThree
import Derived.Test.YtffefhldfnfohaaRows
import Derived.Laws.MakeOwn
import Derived.OwnWalk
import Derived.Deep.Cut
namespace Go.Proofs.Ytffefhldfnfohaa.lawNames
open Go.ChangeShapes Go.WideShapes Go.ChangeAt Go.RowKit Num
set_option linter.unusedSimpArgs false
set_option linter.unusedVariables false


theorem encN1 : EncS 23 11 4 23 0 0 0 0 2 := .inr ⟨by rw [askS_n has_small (by decide)]; decide, rfl, rfl, (askS_n has_small (by decide)).symm⟩
theorem encN2 : EncS 23 11 4 18 11 0 0 0 2 := .inr ⟨by rw [askS_e has_small (by decide)]; decide, rfl, rfl, (askS_e has_small (by decide)).symm⟩
theorem pN : powm 12 3 23 = 3 := powm_nat 12 3 23 3 (by decide)
theorem logN : LogS 23 4 16 1 0 6 := by
  have h0 : powm 4 0 23 = 1 := powm_nat 4 0 23 1 (by decide)
  have h1 : powm 4 1 23 = 4 := powm_nat 4 1 23 4 (by decide)
  refine .inr ⟨fun y y0 y1 => ?_, rfl, rfl⟩
  obtain rfl | rfl : y = 0 ∨ y = 1 := by omega
  · rw [h0]; decide
  · rw [h1]; decide
theorem decN1 : DecS 23 11 4 3 12 2 1 0 6 := .inl ⟨askS_ok has_small (by simp) (by simp), .inl ⟨by omega, by omega, true, 8, by rw [pN]; exact invS_of (by omega) (by omega) (by decide), .inl ⟨rfl, logN⟩⟩⟩
theorem decN2 : DecS 23 11 4 3 12 2 4097 0 2 := .inl ⟨askS_ok has_small (by simp) (by simp), .inr ⟨by omega, rfl, rfl⟩⟩
theorem noinv : InvS 23 0 false 0 := .inr ⟨rfl, rfl, by decide⟩
theorem stripN : StripS 23 11 4 12 2 0 0 6 := .inl ⟨askS_ok has_small (by simp) (by simp), false, 0, noinv, .inr ⟨rfl, rfl, rfl⟩⟩
theorem decN3 : DecS 23 11 4 1 0 0 5 0 6 := .inl ⟨askS_ok has_small (by simp) (by simp), .inl ⟨by omega, by omega, false, 0, by rw [show powm 0 1 23 = 0 from powm_nat 0 1 23 0 (by decide)]; exact noinv, .inr ⟨rfl, rfl, rfl⟩⟩⟩
theorem sumN1 : SumS 23 11 4 [] 1 1 0 := .inr (.inr (.inr ⟨has_small, by simp, rfl, rfl, rfl⟩))
theorem sumN2 : SumS 23 11 4 [(1, 23)] 0 0 2 := .inr (.inr (.inl ⟨has_small, by simp, by decide, rfl, rfl, rfl⟩))
theorem mem12 : Mem 23 11 12 := ⟨by omega, by omega, powm_nat 12 11 23 1 (by decide)⟩
theorem mem2 : Mem 23 11 2 := ⟨by omega, by omega, powm_nat 2 11 23 1 (by decide)⟩
theorem nmem5 : ¬ Mem 23 11 5 := fun h => by
  have h1 := h.2.2
  rw [show powm 5 11 23 = 22 from powm_nat 5 11 23 22 (by decide)] at h1
  cases h1
theorem valN1 : ValS 23 11 4 12 2 true 0 := .inl ⟨askS_ok has_small (by simp) (by simp), by simp [mem12, mem2], rfl⟩
theorem valN2 : ValS 23 11 4 12 5 false 0 := .inl ⟨askS_ok has_small (by simp) (by simp), by simp [nmem5], rfl⟩
theorem refN : RefS 23 11 4 18 12 2 0 12 2 0 := by
  have h1 : powm 4 0 23 = 1 := powm_nat 4 0 23 1 (by decide)
  have h2 : powm 18 0 23 = 1 := powm_nat 18 0 23 1 (by decide)
  exact .inl ⟨askS_ok has_small (by simp) (by simp), by rw [h1]; decide, by rw [h1, h2]; decide, rfl⟩
theorem not_has0 : ¬ Has 0 0 0 := by unfold Has; omega
/-- What is kept across the region that makes the long slice. -/
structure NamesIn (w wx : World) (B : Nat) : Prop where
  c : Pair wx B 12 2
  bel : Below w.heap.size w wx
set_option maxRecDepth 100000 in
set_option maxHeartbeats 8000000 in
theorem walk (w : World) :
    Calls Try.prog 9 #[] w fun e w' => e = .returned (.bool true) ∧ Below w.heap.size w w' := by
  obtain ⟨i0, hi, hz0, hz1, hz2⟩ := info_parts (P := Try.prog) (e := 26) (z := .agg #[.int .u64 0, .int .u64 0]) (size := 2) (bytes := 16) (by kernel_rfl)
  obtain ⟨BIG, hmk⟩ : ∃ o : Obj, ∀ w : World, (Instr.makeSlice 27 (.int .i64 4097) (.int .i64 4097)).run Try.prog w = .ok (.slice (some ⟨w.heap.size, 0, none⟩) 4097 4097) (w.alloc o) :=
    ⟨_, fun w => run_make w 27 26 i0 (.agg #[.int .u64 0, .int .u64 0]) Try.underlying27 hi hz0 .i64 .i64 4097 4097 (by decide) (by decide) (by rw [hz2]; decide) (by decide)⟩
  clear hi hz0 hz1 hz2
  have F_c := Lib.hid (show Pair (w.alloc (.cells #[.int .u64 12, .int .u64 2] 26)) (w.heap.size) 12 2 from Pair.at _ 12 2 _ (w.heap.size) (by simp))
  have HBW := Lib.hid (show Below w.heap.size w (w.alloc (.cells #[.int .u64 12, .int .u64 2] 26)) from (Below.refl _ _).alloc (by simp <;> omega) _)
  go_enter Try.func9, Try.ntmps9
  obtain ⟨x0a, x0b, x0c, x0d, -⟩ := id F_c.out
  go_wp2_with fail
  clear x0a x0b x0c x0d
  refine (small_any _).mono ?_
  rintro e w1 ⟨rfl, hb1⟩
  replace F_c := Lib.hid (F_c.out.keep hb1)
  replace HBW := Lib.hid (HBW.out.trans (hb1.mono HBW.out.size))
  clear hb1
  obtain ⟨x0a, x0b, x0c, x0d, -⟩ := id F_c.out
  go_wp2_with fail
  clear x0a x0b x0c x0d
  refine (encrypt_gen _ (by decide) (by decide) (by decide) (by decide) (by decide) (by decide) encN1).mono ?_
  rintro e w2 ⟨rfl, hb2⟩
  replace F_c := Lib.hid (F_c.out.keep hb2)
  replace HBW := Lib.hid (HBW.out.trans (hb2.mono HBW.out.size))
  clear hb2
  replace F_c := Lib.hid (F_c.out.alloc (.cells #[.int .u64 0, .int .u64 0] 26))
  have F_e1 := Lib.hid (Pair.new w2 0 0 26)
  replace HBW := Lib.hid (HBW.out.alloc HBW.out.size (.cells #[.int .u64 0, .int .u64 0] 26))
  clear F_e1
  obtain ⟨x0a, x0b, x0c, x0d, -⟩ := id F_c.out
  go_wp2_with fail
  clear x0a x0b x0c x0d
  refine (small_any _).mono ?_
  rintro e w3 ⟨rfl, hb3⟩
  replace F_c := Lib.hid (F_c.out.keep hb3)
  replace HBW := Lib.hid (HBW.out.trans (hb3.mono HBW.out.size))
  clear hb3
  obtain ⟨x0a, x0b, x0c, x0d, -⟩ := id F_c.out
  go_wp2_with fail
  clear x0a x0b x0c x0d
  refine (encrypt_gen _ (by decide) (by decide) (by decide) (by decide) (by decide) (by decide) encN2).mono ?_
  rintro e w4 ⟨rfl, hb4⟩
  replace F_c := Lib.hid (F_c.out.keep hb4)
  replace HBW := Lib.hid (HBW.out.trans (hb4.mono HBW.out.size))
  clear hb4
  replace F_c := Lib.hid (F_c.out.alloc (.cells #[.int .u64 0, .int .u64 0] 26))
  have F_f1 := Lib.hid (Pair.new w4 0 0 26)
  replace HBW := Lib.hid (HBW.out.alloc HBW.out.size (.cells #[.int .u64 0, .int .u64 0] 26))
  clear F_f1
  obtain ⟨x0a, x0b, x0c, x0d, -⟩ := id F_c.out
  go_wp2_with fail
  clear x0a x0b x0c x0d
  replace F_c := Lib.hid F_c.out.drew
  replace HBW := Lib.hid HBW.out.drew
  have hS := F_c.out.s
  refine wp_region_stage 2 (fun w' => SPair w' w.heap.size 12 2) (by kernel_rfl) ?_
  refine wpAnyB_take (i := 1) (some 41) (Op.load 26 (Operand.tmp 1)) 26 (v := ?_) ⟨_, rfl, rfl, rfl, rfl, rfl⟩ (by kernel_rfl) (by kernel_rfl) (by kernel_rfl) [2] (by kernel_rfl) (fun _ _ _ h => h) hS (fun w' hSw => ?_) ?_
  rotate_left
  · obtain ⟨s0, s1⟩ := hSw
    unfold bareOp
    go_simp
    try with_reducible rfl
  simp only [Act.put, List.setIfInBounds_toArray, List.set_cons_zero, List.set_cons_succ]
  refine wpAnyB_only (i := 0) (some 40) (Op.call { callee := Callee.value (Operand.func 33), args := #[], argTypes := #[] }) 24 ⟨_, rfl, rfl, rfl, rfl, rfl⟩ (by kernel_rfl) (fun K hK => ?_)
  unfold bareOp
  go_wp2_with (go_at_call 33; refine (small_any _).mono ?_; rintro e w5 ⟨rfl, hb5⟩)
  replace F_c := Lib.hid (F_c.out.keep hb5)
  replace HBW := Lib.hid (HBW.out.trans (hb5.mono HBW.out.size))
  replace hS := F_c.out.s
  clear hb5
  refine hK.out _ _ (fun _ => hS) ?_
  clear hK K
  try simp only [Act.put, List.setIfInBounds_toArray, List.set_cons_zero, List.set_cons_succ]
  refine wpAnyB_only (i := 2) (some 42) (Op.call { callee := Callee.value (Operand.func 27), args := #[Operand.tmp 40, Operand.const (Value.int IntKind.u64 3), Operand.tmp 41, Operand.const (Value.int IntKind.i64 1)], argTypes := #[24, 22, 26, 3] }) 53 ⟨_, rfl, rfl, rfl, rfl, rfl⟩ (by kernel_rfl) (fun K hK => ?_)
  unfold bareOp
  go_wp2_with (go_at_call 27; refine (edecrypt_gen _ (by decide) (by decide) (by decide) (by decide) (by decide) (by decide) decN1).mono ?_; rintro e w6 ⟨rfl, hb6⟩)
  replace F_c := Lib.hid (F_c.out.keep hb6)
  replace HBW := Lib.hid (HBW.out.trans (hb6.mono HBW.out.size))
  replace hS := F_c.out.s
  clear hb6
  refine hK.out _ _ (fun h => absurd (h.symm.trans (by kernel_rfl : _ = true)) (by decide)) ?_
  clear hK K
  try simp only [Act.put, List.setIfInBounds_toArray, List.set_cons_zero, List.set_cons_succ]
  refine wpAnyB_takeP (i := 3) (some 39) (Op.move (Operand.tmp 42)) 53 (v := ?_) ⟨_, rfl, rfl, rfl, rfl, rfl⟩ (by kernel_rfl) (by kernel_rfl) (by kernel_rfl) (by kernel_rfl) (fun _ _ _ h => h) (fun h => absurd (h.symm.trans (by kernel_rfl : _ = true)) (by decide)) (fun w' => ?_) ?_
  rotate_left
  · unfold bareOp
    go_simp
    try with_reducible rfl
  simp only [Act.put, List.setIfInBounds_toArray, List.set_cons_zero, List.set_cons_succ]
  refine wpAnyB_takeP (i := 4) (some 43) (Op.extract (Operand.tmp 39) 0) 3 (v := ?_) ⟨_, rfl, rfl, rfl, rfl, rfl⟩ (by kernel_rfl) (by kernel_rfl) (by kernel_rfl) (by kernel_rfl) (fun _ _ _ h => h) (fun h => absurd (h.symm.trans (by kernel_rfl : _ = true)) (by decide)) (fun w' => ?_) ?_
  rotate_left
  · unfold bareOp
    go_simp
    try with_reducible rfl
  simp only [Act.put, List.setIfInBounds_toArray, List.set_cons_zero, List.set_cons_succ]
  refine wpAnyB_takeP (i := 5) (some 44) (Op.extract (Operand.tmp 39) 1) 30 (v := ?_) ⟨_, rfl, rfl, rfl, rfl, rfl⟩ (by kernel_rfl) (by kernel_rfl) (by kernel_rfl) (by kernel_rfl) (fun _ _ _ h => h) (fun h => absurd (h.symm.trans (by kernel_rfl : _ = true)) (by decide)) (fun w' => ?_) ?_
  rotate_left
  · unfold bareOp
    go_simp
    try with_reducible rfl
  simp only [Act.put, List.setIfInBounds_toArray, List.set_cons_zero, List.set_cons_succ]
  refine wpAnyB_takeP (i := 6) (some 6) (Op.assign (Operand.tmp 43)) 3 (v := ?_) ⟨_, rfl, rfl, rfl, rfl, rfl⟩ (by kernel_rfl) (by kernel_rfl) (by kernel_rfl) (by kernel_rfl) (fun _ _ _ h => h) (fun h => absurd (h.symm.trans (by kernel_rfl : _ = true)) (by decide)) (fun w' => ?_) ?_
  rotate_left
  · unfold bareOp
    go_simp
    try with_reducible rfl
  simp only [Act.put, List.setIfInBounds_toArray, List.set_cons_zero, List.set_cons_succ]
  refine wpAnyB_takeP (i := 7) (some 7) (Op.assign (Operand.tmp 44)) 30 (v := ?_) ⟨_, rfl, rfl, rfl, rfl, rfl⟩ (by kernel_rfl) (by kernel_rfl) (by kernel_rfl) (by kernel_rfl) (fun _ _ _ h => h) (fun h => absurd (h.symm.trans (by kernel_rfl : _ = true)) (by decide)) (fun w' => ?_) ?_
  rotate_left
  · unfold bareOp
    go_simp
    try with_reducible rfl
  simp only [Act.put, List.setIfInBounds_toArray, List.set_cons_zero, List.set_cons_succ]
  refine wpAnyB_done (by kernel_rfl) ?_ _
  obtain ⟨x0a, x0b, x0c, x0d, -⟩ := id F_c.out
  go_wp2_with fail
  clear x0a x0b x0c x0d
  replace F_c := Lib.hid F_c.out.drew
  replace HBW := Lib.hid HBW.out.drew
  have hS := F_c.out.s
  refine wp_region_stage 2 (fun w' => SPair w' w.heap.size 12 2) (by kernel_rfl) ?_
  refine wpAnyB_take (i := 1) (some 47) (Op.load 26 (Operand.tmp 1)) 26 (v := ?_) ⟨_, rfl, rfl, rfl, rfl, rfl⟩ (by kernel_rfl) (by kernel_rfl) (by kernel_rfl) [2] (by kernel_rfl) (fun _ _ _ h => h) hS (fun w' hSw => ?_) ?_
  rotate_left
  · obtain ⟨s0, s1⟩ := hSw
    unfold bareOp
    go_simp
    try with_reducible rfl
  simp only [Act.put, List.setIfInBounds_toArray, List.set_cons_zero, List.set_cons_succ]
  refine wpAnyB_only (i := 0) (some 46) (Op.call { callee := Callee.value (Operand.func 33), args := #[], argTypes := #[] }) 24 ⟨_, rfl, rfl, rfl, rfl, rfl⟩ (by kernel_rfl) (fun K hK => ?_)
  unfold bareOp
  go_wp2_with (go_at_call 33; refine (small_any _).mono ?_; rintro e w7 ⟨rfl, hb7⟩)
  replace F_c := Lib.hid (F_c.out.keep hb7)
  replace HBW := Lib.hid (HBW.out.trans (hb7.mono HBW.out.size))
  replace hS := F_c.out.s
  clear hb7
  refine hK.out _ _ (fun _ => hS) ?_
  clear hK K
  try simp only [Act.put, List.setIfInBounds_toArray, List.set_cons_zero, List.set_cons_succ]
  refine wpAnyB_only (i := 2) (some 48) (Op.call { callee := Callee.value (Operand.func 27), args := #[Operand.tmp 46, Operand.const (Value.int IntKind.u64 3), Operand.tmp 47, Operand.const (Value.int IntKind.i64 4097)], argTypes := #[24, 22, 26, 3] }) 53 ⟨_, rfl, rfl, rfl, rfl, rfl⟩ (by kernel_rfl) (fun K hK => ?_)
  unfold bareOp
  go_wp2_with (go_at_call 27; refine (edecrypt_gen _ (by decide) (by decide) (by decide) (by decide) (by decide) (by decide) decN2).mono ?_; rintro e w8 ⟨rfl, hb8⟩)
  replace F_c := Lib.hid (F_c.out.keep hb8)
  replace HBW := Lib.hid (HBW.out.trans (hb8.mono HBW.out.size))
  replace hS := F_c.out.s
  clear hb8
  refine hK.out _ _ (fun h => absurd (h.symm.trans (by kernel_rfl : _ = true)) (by decide)) ?_
  clear hK K
  try simp only [Act.put, List.setIfInBounds_toArray, List.set_cons_zero, List.set_cons_succ]
  refine wpAnyB_takeP (i := 3) (some 45) (Op.move (Operand.tmp 48)) 53 (v := ?_) ⟨_, rfl, rfl, rfl, rfl, rfl⟩ (by kernel_rfl) (by kernel_rfl) (by kernel_rfl) (by kernel_rfl) (fun _ _ _ h => h) (fun h => absurd (h.symm.trans (by kernel_rfl : _ = true)) (by decide)) (fun w' => ?_) ?_
  rotate_left
  · unfold bareOp
    go_simp
    try with_reducible rfl
  simp only [Act.put, List.setIfInBounds_toArray, List.set_cons_zero, List.set_cons_succ]
  refine wpAnyB_takeP (i := 4) (some 49) (Op.extract (Operand.tmp 45) 0) 3 (v := ?_) ⟨_, rfl, rfl, rfl, rfl, rfl⟩ (by kernel_rfl) (by kernel_rfl) (by kernel_rfl) (by kernel_rfl) (fun _ _ _ h => h) (fun h => absurd (h.symm.trans (by kernel_rfl : _ = true)) (by decide)) (fun w' => ?_) ?_
  rotate_left
  · unfold bareOp
    go_simp
    try with_reducible rfl
  simp only [Act.put, List.setIfInBounds_toArray, List.set_cons_zero, List.set_cons_succ]
  refine wpAnyB_takeP (i := 5) (some 50) (Op.extract (Operand.tmp 45) 1) 30 (v := ?_) ⟨_, rfl, rfl, rfl, rfl, rfl⟩ (by kernel_rfl) (by kernel_rfl) (by kernel_rfl) (by kernel_rfl) (fun _ _ _ h => h) (fun h => absurd (h.symm.trans (by kernel_rfl : _ = true)) (by decide)) (fun w' => ?_) ?_
  rotate_left
  · unfold bareOp
    go_simp
    try with_reducible rfl
  simp only [Act.put, List.setIfInBounds_toArray, List.set_cons_zero, List.set_cons_succ]
  refine wpAnyB_takeP (i := 6) (some 8) (Op.assign (Operand.tmp 49)) 3 (v := ?_) ⟨_, rfl, rfl, rfl, rfl, rfl⟩ (by kernel_rfl) (by kernel_rfl) (by kernel_rfl) (by kernel_rfl) (fun _ _ _ h => h) (fun h => absurd (h.symm.trans (by kernel_rfl : _ = true)) (by decide)) (fun w' => ?_) ?_
  rotate_left
  · unfold bareOp
    go_simp
    try with_reducible rfl
  simp only [Act.put, List.setIfInBounds_toArray, List.set_cons_zero, List.set_cons_succ]
  refine wpAnyB_takeP (i := 7) (some 9) (Op.assign (Operand.tmp 50)) 30 (v := ?_) ⟨_, rfl, rfl, rfl, rfl, rfl⟩ (by kernel_rfl) (by kernel_rfl) (by kernel_rfl) (by kernel_rfl) (fun _ _ _ h => h) (fun h => absurd (h.symm.trans (by kernel_rfl : _ = true)) (by decide)) (fun w' => ?_) ?_
  rotate_left
  · unfold bareOp
    go_simp
    try with_reducible rfl
  simp only [Act.put, List.setIfInBounds_toArray, List.set_cons_zero, List.set_cons_succ]
  refine wpAnyB_done (by kernel_rfl) ?_ _
  obtain ⟨x0a, x0b, x0c, x0d, -⟩ := id F_c.out
  go_wp2_with fail
  clear x0a x0b x0c x0d
  replace F_c := Lib.hid F_c.out.drew
  replace HBW := Lib.hid HBW.out.drew
  have hS := F_c.out.s
  refine wp_region_stage 2 (fun w' => SPair w' w.heap.size 12 2) (by kernel_rfl) ?_
  refine wpAnyB_take (i := 1) (some 53) (Op.load 26 (Operand.tmp 1)) 26 (v := ?_) ⟨_, rfl, rfl, rfl, rfl, rfl⟩ (by kernel_rfl) (by kernel_rfl) (by kernel_rfl) [2] (by kernel_rfl) (fun _ _ _ h => h) hS (fun w' hSw => ?_) ?_
  rotate_left
  · obtain ⟨s0, s1⟩ := hSw
    unfold bareOp
    go_simp
    try with_reducible rfl
  simp only [Act.put, List.setIfInBounds_toArray, List.set_cons_zero, List.set_cons_succ]
  refine wpAnyB_only (i := 0) (some 52) (Op.call { callee := Callee.value (Operand.func 33), args := #[], argTypes := #[] }) 24 ⟨_, rfl, rfl, rfl, rfl, rfl⟩ (by kernel_rfl) (fun K hK => ?_)
  unfold bareOp
  go_wp2_with (go_at_call 33; refine (small_any _).mono ?_; rintro e w9 ⟨rfl, hb9⟩)
  replace F_c := Lib.hid (F_c.out.keep hb9)
  replace HBW := Lib.hid (HBW.out.trans (hb9.mono HBW.out.size))
  replace hS := F_c.out.s
  clear hb9
  refine hK.out _ _ (fun _ => hS) ?_
  clear hK K
  try simp only [Act.put, List.setIfInBounds_toArray, List.set_cons_zero, List.set_cons_succ]
  refine wpAnyB_only (i := 2) (some 54) (Op.call { callee := Callee.value (Operand.func 25), args := #[Operand.tmp 52, Operand.tmp 53, Operand.const (Value.int IntKind.u64 0)], argTypes := #[24, 26, 22] }) 49 ⟨_, rfl, rfl, rfl, rfl, rfl⟩ (by kernel_rfl) (fun K hK => ?_)
  unfold bareOp
  go_wp2_with (go_at_call 25; refine (estrip_gen _ (by decide) (by decide) (by decide) (by decide) (by decide) (by decide) stripN).mono ?_; rintro e w10 ⟨rfl, hb10⟩)
  replace F_c := Lib.hid (F_c.out.keep hb10)
  replace HBW := Lib.hid (HBW.out.trans (hb10.mono HBW.out.size))
  replace hS := F_c.out.s
  clear hb10
  refine hK.out _ _ (fun h => absurd (h.symm.trans (by kernel_rfl : _ = true)) (by decide)) ?_
  clear hK K
  try simp only [Act.put, List.setIfInBounds_toArray, List.set_cons_zero, List.set_cons_succ]
  refine wpAnyB_takeP (i := 3) (some 51) (Op.move (Operand.tmp 54)) 49 (v := ?_) ⟨_, rfl, rfl, rfl, rfl, rfl⟩ (by kernel_rfl) (by kernel_rfl) (by kernel_rfl) (by kernel_rfl) (fun _ _ _ h => h) (fun h => absurd (h.symm.trans (by kernel_rfl : _ = true)) (by decide)) (fun w' => ?_) ?_
  rotate_left
  · unfold bareOp
    go_simp
    try with_reducible rfl
  simp only [Act.put, List.setIfInBounds_toArray, List.set_cons_zero, List.set_cons_succ]
  refine wpAnyB_takeP (i := 4) (some 55) (Op.extract (Operand.tmp 51) 0) 22 (v := ?_) ⟨_, rfl, rfl, rfl, rfl, rfl⟩ (by kernel_rfl) (by kernel_rfl) (by kernel_rfl) (by kernel_rfl) (fun _ _ _ h => h) (fun h => absurd (h.symm.trans (by kernel_rfl : _ = true)) (by decide)) (fun w' => ?_) ?_
  rotate_left
  · unfold bareOp
    go_simp
    try with_reducible rfl
  simp only [Act.put, List.setIfInBounds_toArray, List.set_cons_zero, List.set_cons_succ]
  refine wpAnyB_takeP (i := 5) (some 56) (Op.extract (Operand.tmp 51) 1) 30 (v := ?_) ⟨_, rfl, rfl, rfl, rfl, rfl⟩ (by kernel_rfl) (by kernel_rfl) (by kernel_rfl) (by kernel_rfl) (fun _ _ _ h => h) (fun h => absurd (h.symm.trans (by kernel_rfl : _ = true)) (by decide)) (fun w' => ?_) ?_
  rotate_left
  · unfold bareOp
    go_simp
    try with_reducible rfl
  simp only [Act.put, List.setIfInBounds_toArray, List.set_cons_zero, List.set_cons_succ]
  refine wpAnyB_takeP (i := 6) (some 10) (Op.assign (Operand.tmp 55)) 22 (v := ?_) ⟨_, rfl, rfl, rfl, rfl, rfl⟩ (by kernel_rfl) (by kernel_rfl) (by kernel_rfl) (by kernel_rfl) (fun _ _ _ h => h) (fun h => absurd (h.symm.trans (by kernel_rfl : _ = true)) (by decide)) (fun w' => ?_) ?_
  rotate_left
  · unfold bareOp
    go_simp
    try with_reducible rfl
  simp only [Act.put, List.setIfInBounds_toArray, List.set_cons_zero, List.set_cons_succ]
  refine wpAnyB_takeP (i := 7) (some 11) (Op.assign (Operand.tmp 56)) 30 (v := ?_) ⟨_, rfl, rfl, rfl, rfl, rfl⟩ (by kernel_rfl) (by kernel_rfl) (by kernel_rfl) (by kernel_rfl) (fun _ _ _ h => h) (fun h => absurd (h.symm.trans (by kernel_rfl : _ = true)) (by decide)) (fun w' => ?_) ?_
  rotate_left
  · unfold bareOp
    go_simp
    try with_reducible rfl
  simp only [Act.put, List.setIfInBounds_toArray, List.set_cons_zero, List.set_cons_succ]
  refine wpAnyB_done (by kernel_rfl) ?_ _
  obtain ⟨x0a, x0b, x0c, x0d, -⟩ := id F_c.out
  go_wp2_with fail
  clear x0a x0b x0c x0d
  go_cut [12, 13] from 57 (fun c12 c13 wx => c13 = .int .i64 4 ∧ Hid (NamesIn w wx w.heap.size))
  case first =>
    replace F_c := Lib.hid F_c.out.drew
    replace HBW := Lib.hid HBW.out.drew
    have hS := F_c.out.s
    refine wp_region_stage 2 (fun w' => SPair w' w.heap.size 12 2) (by kernel_rfl) ?_
    refine wpAnyB_three (i := 0) (j := 1) (k := 6) (some 58) (Op.call { callee := Callee.value (Operand.func 33), args := #[], argTypes := #[] }) 24 (some 59) (Op.makeSlice 27 (Operand.const (Value.int IntKind.i64 4097)) (Operand.const (Value.int IntKind.i64 4097))) 27 (some 12) (Op.alloc 26) 0 ⟨_, rfl, rfl, rfl, rfl, rfl⟩ ⟨_, rfl, rfl, rfl, rfl, rfl⟩ ⟨_, rfl, rfl, rfl, rfl, rfl⟩ (by kernel_rfl) (fun K hK => ?_) (fun K hK => ?_) (fun K hK => ?_)
    · skip
      unfold bareOp
      go_wp2_with (go_at_call 33; refine (small_any _).mono ?_; rintro e w11 ⟨rfl, hb11⟩)
      replace F_c := Lib.hid (F_c.out.keep hb11)
      replace HBW := Lib.hid (HBW.out.trans (hb11.mono HBW.out.size))
      replace hS := F_c.out.s
      clear hb11
      refine hK.out _ _ (fun _ => hS) ?_
      clear hK K
      try simp only [Act.put, List.setIfInBounds_toArray, List.set_cons_zero, List.set_cons_succ]
      refine wpAnyB_two (i := 1) (j := 6) (some 59) (Op.makeSlice 27 (Operand.const (Value.int IntKind.i64 4097)) (Operand.const (Value.int IntKind.i64 4097))) 27 (some 12) (Op.alloc 26) 0 ⟨_, rfl, rfl, rfl, rfl, rfl⟩ ⟨_, rfl, rfl, rfl, rfl, rfl⟩ (by kernel_rfl) (fun K hK => ?_) (fun K hK => ?_)
      · skip
        unfold bareOp
        go_wp2_with fail
        replace F_c := Lib.hid (F_c.out.alloc BIG)
        replace HBW := Lib.hid (HBW.out.alloc HBW.out.size BIG)
        replace hS := F_c.out.s
        refine hK.out _ _ (fun _ => hS) ?_
        clear hK K
        try simp only [Act.put, List.setIfInBounds_toArray, List.set_cons_zero, List.set_cons_succ]
        refine wpAnyB_two (i := 2) (j := 6) (some 60) (Op.call { callee := Callee.value (Operand.func 15), args := #[Operand.tmp 58, Operand.tmp 59], argTypes := #[24, 27] }) 31 (some 12) (Op.alloc 26) 0 ⟨_, rfl, rfl, rfl, rfl, rfl⟩ ⟨_, rfl, rfl, rfl, rfl, rfl⟩ (by kernel_rfl) (fun K hK => ?_) (fun K hK => ?_)
        · skip
          unfold bareOp
          go_wp2_with (go_at_call 15; refine (esum_many _ (by decide) (by decide) (by decide) has_small (by decide)).mono ?_; rintro e w12 ⟨rfl, hb12⟩)
          replace F_c := Lib.hid (F_c.out.keep hb12)
          replace HBW := Lib.hid (HBW.out.trans (hb12.mono HBW.out.size))
          replace hS := F_c.out.s
          clear hb12
          refine hK.out _ _ (fun h => absurd (h.symm.trans (by kernel_rfl : _ = true)) (by decide)) ?_
          clear hK K
          try simp only [Act.put, List.setIfInBounds_toArray, List.set_cons_zero, List.set_cons_succ]
          refine wpAnyB_takeP (i := 3) (some 57) (Op.move (Operand.tmp 60)) 31 (v := ?_) ⟨_, rfl, rfl, rfl, rfl, rfl⟩ (by kernel_rfl) (by kernel_rfl) (by kernel_rfl) (by kernel_rfl) (fun _ _ _ h => h) (fun h => absurd (h.symm.trans (by kernel_rfl : _ = true)) (by decide)) (fun w' => ?_) ?_
          rotate_left
          · unfold bareOp
            go_simp
            try with_reducible rfl
          simp only [Act.put, List.setIfInBounds_toArray, List.set_cons_zero, List.set_cons_succ]
          refine wpAnyB_takeP (i := 4) (some 61) (Op.extract (Operand.tmp 57) 0) 26 (v := ?_) ⟨_, rfl, rfl, rfl, rfl, rfl⟩ (by kernel_rfl) (by kernel_rfl) (by kernel_rfl) (by kernel_rfl) (fun _ _ _ h => h) (fun h => absurd (h.symm.trans (by kernel_rfl : _ = true)) (by decide)) (fun w' => ?_) ?_
          rotate_left
          · unfold bareOp
            go_simp
            try with_reducible rfl
          simp only [Act.put, List.setIfInBounds_toArray, List.set_cons_zero, List.set_cons_succ]
          refine wpAnyB_takeP (i := 5) (some 62) (Op.extract (Operand.tmp 57) 1) 30 (v := ?_) ⟨_, rfl, rfl, rfl, rfl, rfl⟩ (by kernel_rfl) (by kernel_rfl) (by kernel_rfl) (by kernel_rfl) (fun _ _ _ h => h) (fun h => absurd (h.symm.trans (by kernel_rfl : _ = true)) (by decide)) (fun w' => ?_) ?_
          rotate_left
          · unfold bareOp
            go_simp
            try with_reducible rfl
          simp only [Act.put, List.setIfInBounds_toArray, List.set_cons_zero, List.set_cons_succ]
          refine wpAnyB_only (i := 6) (some 12) (Op.alloc 26) 0 ⟨_, rfl, rfl, rfl, rfl, rfl⟩ (by kernel_rfl) (fun K hK => ?_)
          unfold bareOp
          go_wp2_with fail
          refine hK.out _ _ (fun h => absurd (h.symm.trans (by kernel_rfl : _ = true)) (by decide)) ?_
          clear hK K
          try simp only [Act.put, List.setIfInBounds_toArray, List.set_cons_zero, List.set_cons_succ]
          refine wpAnyB_only (i := 7) none (Op.store 26 (Operand.tmp 12) (Operand.tmp 61)) 0 ⟨_, rfl, rfl, rfl, rfl, rfl⟩ (by kernel_rfl) (fun K hK => ?_)
          unfold bareOp
          go_wp2_with fail
          refine hK.out _ _ (fun h => absurd (h.symm.trans (by kernel_rfl : _ = true)) (by decide)) ?_
          clear hK K
          try simp only [Act.put, List.setIfInBounds_toArray, List.set_cons_zero, List.set_cons_succ]
          refine wpAnyB_takeP (i := 8) (some 13) (Op.assign (Operand.tmp 62)) 30 (v := ?_) ⟨_, rfl, rfl, rfl, rfl, rfl⟩ (by kernel_rfl) (by kernel_rfl) (by kernel_rfl) (by kernel_rfl) (fun _ _ _ h => h) (fun h => absurd (h.symm.trans (by kernel_rfl : _ = true)) (by decide)) (fun w' => ?_) ?_
          rotate_left
          · unfold bareOp
            go_simp
            try with_reducible rfl
          simp only [Act.put, List.setIfInBounds_toArray, List.set_cons_zero, List.set_cons_succ]
          refine wpAnyB_done (by kernel_rfl) ?_ _
          replace F_c := Lib.hid (F_c.out.alloc (.cells #[.int .u64 0, .int .u64 0] 26))
          have F_j := Lib.hid (Pair.new w12 0 0 26)
          replace HBW := Lib.hid (HBW.out.alloc HBW.out.size (.cells #[.int .u64 0, .int .u64 0] 26))
          go_wp2_with fail
          go_meet
          case rel => exact ⟨rfl, ⟨F_c.out, HBW.out⟩⟩
        · skip
          unfold bareOp
          go_wp2_with fail
          have ltB : w.heap.size ≤ w11.heap.size + 1 := by have h := HBW.out.size; (try simp only [World.size_alloc, World.size_drew, World.size_setCell] at h); omega
          have ne_c : w11.heap.size + 1 ≠ w.heap.size := by have h := F_c.out.lt; (try simp only [World.size_alloc, World.size_drew, World.size_setCell] at h); omega
          replace F_c := Lib.hid (F_c.out.alloc (.cells #[.int .u64 0, .int .u64 0] 26))
          have F_j := Lib.hid (Pair.at ((w11.alloc BIG)) 0 0 26 (w11.heap.size + 1) (by simp))
          replace HBW := Lib.hid (HBW.out.alloc HBW.out.size (.cells #[.int .u64 0, .int .u64 0] 26))
          replace hS := F_c.out.s
          refine hK.out _ _ (fun _ => hS) ?_
          clear hK K
          try simp only [Act.put, List.setIfInBounds_toArray, List.set_cons_zero, List.set_cons_succ]
          refine wpAnyB_only (i := 2) (some 60) (Op.call { callee := Callee.value (Operand.func 15), args := #[Operand.tmp 58, Operand.tmp 59], argTypes := #[24, 27] }) 31 ⟨_, rfl, rfl, rfl, rfl, rfl⟩ (by kernel_rfl) (fun K hK => ?_)
          unfold bareOp
          go_wp2_with (go_at_call 15; refine (esum_many _ (by decide) (by decide) (by decide) has_small (by decide)).mono ?_; rintro e w12 ⟨rfl, hb12⟩)
          replace F_c := Lib.hid (F_c.out.keep hb12)
          replace F_j := Lib.hid (F_j.out.keep hb12)
          replace HBW := Lib.hid (HBW.out.trans (hb12.mono HBW.out.size))
          replace hS := F_c.out.s
          clear hb12
          refine hK.out _ _ (fun h => absurd (h.symm.trans (by kernel_rfl : _ = true)) (by decide)) ?_
          clear hK K
          try simp only [Act.put, List.setIfInBounds_toArray, List.set_cons_zero, List.set_cons_succ]
          refine wpAnyB_takeP (i := 3) (some 57) (Op.move (Operand.tmp 60)) 31 (v := ?_) ⟨_, rfl, rfl, rfl, rfl, rfl⟩ (by kernel_rfl) (by kernel_rfl) (by kernel_rfl) (by kernel_rfl) (fun _ _ _ h => h) (fun h => absurd (h.symm.trans (by kernel_rfl : _ = true)) (by decide)) (fun w' => ?_) ?_
          rotate_left
          · unfold bareOp
            go_simp
            try with_reducible rfl
          simp only [Act.put, List.setIfInBounds_toArray, List.set_cons_zero, List.set_cons_succ]
          refine wpAnyB_takeP (i := 4) (some 61) (Op.extract (Operand.tmp 57) 0) 26 (v := ?_) ⟨_, rfl, rfl, rfl, rfl, rfl⟩ (by kernel_rfl) (by kernel_rfl) (by kernel_rfl) (by kernel_rfl) (fun _ _ _ h => h) (fun h => absurd (h.symm.trans (by kernel_rfl : _ = true)) (by decide)) (fun w' => ?_) ?_
          rotate_left
          · unfold bareOp
            go_simp
            try with_reducible rfl
          simp only [Act.put, List.setIfInBounds_toArray, List.set_cons_zero, List.set_cons_succ]
          refine wpAnyB_takeP (i := 5) (some 62) (Op.extract (Operand.tmp 57) 1) 30 (v := ?_) ⟨_, rfl, rfl, rfl, rfl, rfl⟩ (by kernel_rfl) (by kernel_rfl) (by kernel_rfl) (by kernel_rfl) (fun _ _ _ h => h) (fun h => absurd (h.symm.trans (by kernel_rfl : _ = true)) (by decide)) (fun w' => ?_) ?_
          rotate_left
          · unfold bareOp
            go_simp
            try with_reducible rfl
          simp only [Act.put, List.setIfInBounds_toArray, List.set_cons_zero, List.set_cons_succ]
          refine wpAnyB_only (i := 7) none (Op.store 26 (Operand.tmp 12) (Operand.tmp 61)) 0 ⟨_, rfl, rfl, rfl, rfl, rfl⟩ (by kernel_rfl) (fun K hK => ?_)
          unfold bareOp
          obtain ⟨za, zb, zc, zd, -⟩ := id F_j.out
          go_wp2_with fail
          clear za zb zc zd
          refine hK.out _ _ (fun h => absurd (h.symm.trans (by kernel_rfl : _ = true)) (by decide)) ?_
          clear hK K
          try simp only [Act.put, List.setIfInBounds_toArray, List.set_cons_zero, List.set_cons_succ]
          refine wpAnyB_takeP (i := 8) (some 13) (Op.assign (Operand.tmp 62)) 30 (v := ?_) ⟨_, rfl, rfl, rfl, rfl, rfl⟩ (by kernel_rfl) (by kernel_rfl) (by kernel_rfl) (by kernel_rfl) (fun _ _ _ h => h) (fun h => absurd (h.symm.trans (by kernel_rfl : _ = true)) (by decide)) (fun w' => ?_) ?_
          rotate_left
          · unfold bareOp
            go_simp
            try with_reducible rfl
          simp only [Act.put, List.setIfInBounds_toArray, List.set_cons_zero, List.set_cons_succ]
          refine wpAnyB_done (by kernel_rfl) ?_ _
          replace F_j := Lib.hid (F_j.out.stored 0 0)
          replace F_c := Lib.hid ((F_c.out.far (o := 0) ne_c (.int .u64 0)).far (o := 1) ne_c (.int .u64 0))
          clear ne_c
          replace HBW := Lib.hid ((HBW.out.setCell (p := ⟨w11.heap.size + 1, 0, none⟩) ltB (.int .u64 0)).setCell (p := ⟨w11.heap.size + 1, 1, none⟩) ltB (.int .u64 0))
          clear ltB
          go_wp2_with fail
          go_meet
          case rel => exact ⟨rfl, ⟨F_c.out, HBW.out⟩⟩
      · skip
        unfold bareOp
        go_wp2_with fail
        have ltB : w.heap.size ≤ w11.heap.size := by have h := HBW.out.size; (try simp only [World.size_alloc, World.size_drew, World.size_setCell] at h); omega
        have ne_c : w11.heap.size ≠ w.heap.size := by have h := F_c.out.lt; (try simp only [World.size_alloc, World.size_drew, World.size_setCell] at h); omega
        replace F_c := Lib.hid (F_c.out.alloc (.cells #[.int .u64 0, .int .u64 0] 26))
        have F_j := Lib.hid (Pair.at w11 0 0 26 (w11.heap.size) (by simp))
        replace HBW := Lib.hid (HBW.out.alloc HBW.out.size (.cells #[.int .u64 0, .int .u64 0] 26))
        replace hS := F_c.out.s
        refine hK.out _ _ (fun _ => hS) ?_
        clear hK K
        try simp only [Act.put, List.setIfInBounds_toArray, List.set_cons_zero, List.set_cons_succ]
        refine wpAnyB_only (i := 1) (some 59) (Op.makeSlice 27 (Operand.const (Value.int IntKind.i64 4097)) (Operand.const (Value.int IntKind.i64 4097))) 27 ⟨_, rfl, rfl, rfl, rfl, rfl⟩ (by kernel_rfl) (fun K hK => ?_)
        unfold bareOp
        go_wp2_with fail
        replace F_c := Lib.hid (F_c.out.alloc BIG)
        replace F_j := Lib.hid (F_j.out.alloc BIG)
        replace HBW := Lib.hid (HBW.out.alloc HBW.out.size BIG)
        replace hS := F_c.out.s
        refine hK.out _ _ (fun _ => hS) ?_
        clear hK K
        try simp only [Act.put, List.setIfInBounds_toArray, List.set_cons_zero, List.set_cons_succ]
        refine wpAnyB_only (i := 2) (some 60) (Op.call { callee := Callee.value (Operand.func 15), args := #[Operand.tmp 58, Operand.tmp 59], argTypes := #[24, 27] }) 31 ⟨_, rfl, rfl, rfl, rfl, rfl⟩ (by kernel_rfl) (fun K hK => ?_)
        unfold bareOp
        go_wp2_with (go_at_call 15; refine (esum_many _ (by decide) (by decide) (by decide) has_small (by decide)).mono ?_; rintro e w12 ⟨rfl, hb12⟩)
        replace F_c := Lib.hid (F_c.out.keep hb12)
        replace F_j := Lib.hid (F_j.out.keep hb12)
        replace HBW := Lib.hid (HBW.out.trans (hb12.mono HBW.out.size))
        replace hS := F_c.out.s
        clear hb12
        refine hK.out _ _ (fun h => absurd (h.symm.trans (by kernel_rfl : _ = true)) (by decide)) ?_
        clear hK K
        try simp only [Act.put, List.setIfInBounds_toArray, List.set_cons_zero, List.set_cons_succ]
        refine wpAnyB_takeP (i := 3) (some 57) (Op.move (Operand.tmp 60)) 31 (v := ?_) ⟨_, rfl, rfl, rfl, rfl, rfl⟩ (by kernel_rfl) (by kernel_rfl) (by kernel_rfl) (by kernel_rfl) (fun _ _ _ h => h) (fun h => absurd (h.symm.trans (by kernel_rfl : _ = true)) (by decide)) (fun w' => ?_) ?_
        rotate_left
        · unfold bareOp
          go_simp
          try with_reducible rfl
        simp only [Act.put, List.setIfInBounds_toArray, List.set_cons_zero, List.set_cons_succ]
        refine wpAnyB_takeP (i := 4) (some 61) (Op.extract (Operand.tmp 57) 0) 26 (v := ?_) ⟨_, rfl, rfl, rfl, rfl, rfl⟩ (by kernel_rfl) (by kernel_rfl) (by kernel_rfl) (by kernel_rfl) (fun _ _ _ h => h) (fun h => absurd (h.symm.trans (by kernel_rfl : _ = true)) (by decide)) (fun w' => ?_) ?_
        rotate_left
        · unfold bareOp
          go_simp
          try with_reducible rfl
        simp only [Act.put, List.setIfInBounds_toArray, List.set_cons_zero, List.set_cons_succ]
        refine wpAnyB_takeP (i := 5) (some 62) (Op.extract (Operand.tmp 57) 1) 30 (v := ?_) ⟨_, rfl, rfl, rfl, rfl, rfl⟩ (by kernel_rfl) (by kernel_rfl) (by kernel_rfl) (by kernel_rfl) (fun _ _ _ h => h) (fun h => absurd (h.symm.trans (by kernel_rfl : _ = true)) (by decide)) (fun w' => ?_) ?_
        rotate_left
        · unfold bareOp
          go_simp
          try with_reducible rfl
        simp only [Act.put, List.setIfInBounds_toArray, List.set_cons_zero, List.set_cons_succ]
        refine wpAnyB_only (i := 7) none (Op.store 26 (Operand.tmp 12) (Operand.tmp 61)) 0 ⟨_, rfl, rfl, rfl, rfl, rfl⟩ (by kernel_rfl) (fun K hK => ?_)
        unfold bareOp
        obtain ⟨za, zb, zc, zd, -⟩ := id F_j.out
        go_wp2_with fail
        clear za zb zc zd
        refine hK.out _ _ (fun h => absurd (h.symm.trans (by kernel_rfl : _ = true)) (by decide)) ?_
        clear hK K
        try simp only [Act.put, List.setIfInBounds_toArray, List.set_cons_zero, List.set_cons_succ]
        refine wpAnyB_takeP (i := 8) (some 13) (Op.assign (Operand.tmp 62)) 30 (v := ?_) ⟨_, rfl, rfl, rfl, rfl, rfl⟩ (by kernel_rfl) (by kernel_rfl) (by kernel_rfl) (by kernel_rfl) (fun _ _ _ h => h) (fun h => absurd (h.symm.trans (by kernel_rfl : _ = true)) (by decide)) (fun w' => ?_) ?_
        rotate_left
        · unfold bareOp
          go_simp
          try with_reducible rfl
        simp only [Act.put, List.setIfInBounds_toArray, List.set_cons_zero, List.set_cons_succ]
        refine wpAnyB_done (by kernel_rfl) ?_ _
        replace F_j := Lib.hid (F_j.out.stored 0 0)
        replace F_c := Lib.hid ((F_c.out.far (o := 0) ne_c (.int .u64 0)).far (o := 1) ne_c (.int .u64 0))
        clear ne_c
        replace HBW := Lib.hid ((HBW.out.setCell (p := ⟨w11.heap.size, 0, none⟩) ltB (.int .u64 0)).setCell (p := ⟨w11.heap.size, 1, none⟩) ltB (.int .u64 0))
        clear ltB
        go_wp2_with fail
        go_meet
        case rel => exact ⟨rfl, ⟨F_c.out, HBW.out⟩⟩
    · skip
      unfold bareOp
      go_wp2_with fail
      replace F_c := Lib.hid (F_c.out.alloc BIG)
      replace HBW := Lib.hid (HBW.out.alloc HBW.out.size BIG)
      replace hS := F_c.out.s
      refine hK.out _ _ (fun _ => hS) ?_
      clear hK K
      try simp only [Act.put, List.setIfInBounds_toArray, List.set_cons_zero, List.set_cons_succ]
      refine wpAnyB_two (i := 0) (j := 6) (some 58) (Op.call { callee := Callee.value (Operand.func 33), args := #[], argTypes := #[] }) 24 (some 12) (Op.alloc 26) 0 ⟨_, rfl, rfl, rfl, rfl, rfl⟩ ⟨_, rfl, rfl, rfl, rfl, rfl⟩ (by kernel_rfl) (fun K hK => ?_) (fun K hK => ?_)
      · skip
        unfold bareOp
        go_wp2_with (go_at_call 33; refine (small_any _).mono ?_; rintro e w11 ⟨rfl, hb11⟩)
        replace F_c := Lib.hid (F_c.out.keep hb11)
        replace HBW := Lib.hid (HBW.out.trans (hb11.mono HBW.out.size))
        replace hS := F_c.out.s
        clear hb11
        refine hK.out _ _ (fun _ => hS) ?_
        clear hK K
        try simp only [Act.put, List.setIfInBounds_toArray, List.set_cons_zero, List.set_cons_succ]
        refine wpAnyB_two (i := 2) (j := 6) (some 60) (Op.call { callee := Callee.value (Operand.func 15), args := #[Operand.tmp 58, Operand.tmp 59], argTypes := #[24, 27] }) 31 (some 12) (Op.alloc 26) 0 ⟨_, rfl, rfl, rfl, rfl, rfl⟩ ⟨_, rfl, rfl, rfl, rfl, rfl⟩ (by kernel_rfl) (fun K hK => ?_) (fun K hK => ?_)
        · skip
          unfold bareOp
          go_wp2_with (go_at_call 15; refine (esum_many _ (by decide) (by decide) (by decide) has_small (by decide)).mono ?_; rintro e w12 ⟨rfl, hb12⟩)
          replace F_c := Lib.hid (F_c.out.keep hb12)
          replace HBW := Lib.hid (HBW.out.trans (hb12.mono HBW.out.size))
          replace hS := F_c.out.s
          clear hb12
          refine hK.out _ _ (fun h => absurd (h.symm.trans (by kernel_rfl : _ = true)) (by decide)) ?_
          clear hK K
          try simp only [Act.put, List.setIfInBounds_toArray, List.set_cons_zero, List.set_cons_succ]
          refine wpAnyB_takeP (i := 3) (some 57) (Op.move (Operand.tmp 60)) 31 (v := ?_) ⟨_, rfl, rfl, rfl, rfl, rfl⟩ (by kernel_rfl) (by kernel_rfl) (by kernel_rfl) (by kernel_rfl) (fun _ _ _ h => h) (fun h => absurd (h.symm.trans (by kernel_rfl : _ = true)) (by decide)) (fun w' => ?_) ?_
          rotate_left
          · unfold bareOp
            go_simp
            try with_reducible rfl
          simp only [Act.put, List.setIfInBounds_toArray, List.set_cons_zero, List.set_cons_succ]
          refine wpAnyB_takeP (i := 4) (some 61) (Op.extract (Operand.tmp 57) 0) 26 (v := ?_) ⟨_, rfl, rfl, rfl, rfl, rfl⟩ (by kernel_rfl) (by kernel_rfl) (by kernel_rfl) (by kernel_rfl) (fun _ _ _ h => h) (fun h => absurd (h.symm.trans (by kernel_rfl : _ = true)) (by decide)) (fun w' => ?_) ?_
          rotate_left
          · unfold bareOp
            go_simp
            try with_reducible rfl
          simp only [Act.put, List.setIfInBounds_toArray, List.set_cons_zero, List.set_cons_succ]
          refine wpAnyB_takeP (i := 5) (some 62) (Op.extract (Operand.tmp 57) 1) 30 (v := ?_) ⟨_, rfl, rfl, rfl, rfl, rfl⟩ (by kernel_rfl) (by kernel_rfl) (by kernel_rfl) (by kernel_rfl) (fun _ _ _ h => h) (fun h => absurd (h.symm.trans (by kernel_rfl : _ = true)) (by decide)) (fun w' => ?_) ?_
          rotate_left
          · unfold bareOp
            go_simp
            try with_reducible rfl
          simp only [Act.put, List.setIfInBounds_toArray, List.set_cons_zero, List.set_cons_succ]
          refine wpAnyB_only (i := 6) (some 12) (Op.alloc 26) 0 ⟨_, rfl, rfl, rfl, rfl, rfl⟩ (by kernel_rfl) (fun K hK => ?_)
          unfold bareOp
          go_wp2_with fail
          refine hK.out _ _ (fun h => absurd (h.symm.trans (by kernel_rfl : _ = true)) (by decide)) ?_
          clear hK K
          try simp only [Act.put, List.setIfInBounds_toArray, List.set_cons_zero, List.set_cons_succ]
          refine wpAnyB_only (i := 7) none (Op.store 26 (Operand.tmp 12) (Operand.tmp 61)) 0 ⟨_, rfl, rfl, rfl, rfl, rfl⟩ (by kernel_rfl) (fun K hK => ?_)
          unfold bareOp
          go_wp2_with fail
          refine hK.out _ _ (fun h => absurd (h.symm.trans (by kernel_rfl : _ = true)) (by decide)) ?_
          clear hK K
          try simp only [Act.put, List.setIfInBounds_toArray, List.set_cons_zero, List.set_cons_succ]
          refine wpAnyB_takeP (i := 8) (some 13) (Op.assign (Operand.tmp 62)) 30 (v := ?_) ⟨_, rfl, rfl, rfl, rfl, rfl⟩ (by kernel_rfl) (by kernel_rfl) (by kernel_rfl) (by kernel_rfl) (fun _ _ _ h => h) (fun h => absurd (h.symm.trans (by kernel_rfl : _ = true)) (by decide)) (fun w' => ?_) ?_
          rotate_left
          · unfold bareOp
            go_simp
            try with_reducible rfl
          simp only [Act.put, List.setIfInBounds_toArray, List.set_cons_zero, List.set_cons_succ]
          refine wpAnyB_done (by kernel_rfl) ?_ _
          replace F_c := Lib.hid (F_c.out.alloc (.cells #[.int .u64 0, .int .u64 0] 26))
          have F_j := Lib.hid (Pair.new w12 0 0 26)
          replace HBW := Lib.hid (HBW.out.alloc HBW.out.size (.cells #[.int .u64 0, .int .u64 0] 26))
          go_wp2_with fail
          go_meet
          case rel => exact ⟨rfl, ⟨F_c.out, HBW.out⟩⟩
        · skip
          unfold bareOp
          go_wp2_with fail
          have ltB : w.heap.size ≤ w11.heap.size := by have h := HBW.out.size; (try simp only [World.size_alloc, World.size_drew, World.size_setCell] at h); omega
          have ne_c : w11.heap.size ≠ w.heap.size := by have h := F_c.out.lt; (try simp only [World.size_alloc, World.size_drew, World.size_setCell] at h); omega
          replace F_c := Lib.hid (F_c.out.alloc (.cells #[.int .u64 0, .int .u64 0] 26))
          have F_j := Lib.hid (Pair.at w11 0 0 26 (w11.heap.size) (by simp))
          replace HBW := Lib.hid (HBW.out.alloc HBW.out.size (.cells #[.int .u64 0, .int .u64 0] 26))
          replace hS := F_c.out.s
          refine hK.out _ _ (fun _ => hS) ?_
          clear hK K
          try simp only [Act.put, List.setIfInBounds_toArray, List.set_cons_zero, List.set_cons_succ]
          refine wpAnyB_only (i := 2) (some 60) (Op.call { callee := Callee.value (Operand.func 15), args := #[Operand.tmp 58, Operand.tmp 59], argTypes := #[24, 27] }) 31 ⟨_, rfl, rfl, rfl, rfl, rfl⟩ (by kernel_rfl) (fun K hK => ?_)
          unfold bareOp
          go_wp2_with (go_at_call 15; refine (esum_many _ (by decide) (by decide) (by decide) has_small (by decide)).mono ?_; rintro e w12 ⟨rfl, hb12⟩)
          replace F_c := Lib.hid (F_c.out.keep hb12)
          replace F_j := Lib.hid (F_j.out.keep hb12)
          replace HBW := Lib.hid (HBW.out.trans (hb12.mono HBW.out.size))
          replace hS := F_c.out.s
          clear hb12
          refine hK.out _ _ (fun h => absurd (h.symm.trans (by kernel_rfl : _ = true)) (by decide)) ?_
          clear hK K
          try simp only [Act.put, List.setIfInBounds_toArray, List.set_cons_zero, List.set_cons_succ]
          refine wpAnyB_takeP (i := 3) (some 57) (Op.move (Operand.tmp 60)) 31 (v := ?_) ⟨_, rfl, rfl, rfl, rfl, rfl⟩ (by kernel_rfl) (by kernel_rfl) (by kernel_rfl) (by kernel_rfl) (fun _ _ _ h => h) (fun h => absurd (h.symm.trans (by kernel_rfl : _ = true)) (by decide)) (fun w' => ?_) ?_
          rotate_left
          · unfold bareOp
            go_simp
            try with_reducible rfl
          simp only [Act.put, List.setIfInBounds_toArray, List.set_cons_zero, List.set_cons_succ]
          refine wpAnyB_takeP (i := 4) (some 61) (Op.extract (Operand.tmp 57) 0) 26 (v := ?_) ⟨_, rfl, rfl, rfl, rfl, rfl⟩ (by kernel_rfl) (by kernel_rfl) (by kernel_rfl) (by kernel_rfl) (fun _ _ _ h => h) (fun h => absurd (h.symm.trans (by kernel_rfl : _ = true)) (by decide)) (fun w' => ?_) ?_
          rotate_left
          · unfold bareOp
            go_simp
            try with_reducible rfl
          simp only [Act.put, List.setIfInBounds_toArray, List.set_cons_zero, List.set_cons_succ]
          refine wpAnyB_takeP (i := 5) (some 62) (Op.extract (Operand.tmp 57) 1) 30 (v := ?_) ⟨_, rfl, rfl, rfl, rfl, rfl⟩ (by kernel_rfl) (by kernel_rfl) (by kernel_rfl) (by kernel_rfl) (fun _ _ _ h => h) (fun h => absurd (h.symm.trans (by kernel_rfl : _ = true)) (by decide)) (fun w' => ?_) ?_
          rotate_left
          · unfold bareOp
            go_simp
            try with_reducible rfl
          simp only [Act.put, List.setIfInBounds_toArray, List.set_cons_zero, List.set_cons_succ]
          refine wpAnyB_only (i := 7) none (Op.store 26 (Operand.tmp 12) (Operand.tmp 61)) 0 ⟨_, rfl, rfl, rfl, rfl, rfl⟩ (by kernel_rfl) (fun K hK => ?_)
          unfold bareOp
          obtain ⟨za, zb, zc, zd, -⟩ := id F_j.out
          go_wp2_with fail
          clear za zb zc zd
          refine hK.out _ _ (fun h => absurd (h.symm.trans (by kernel_rfl : _ = true)) (by decide)) ?_
          clear hK K
          try simp only [Act.put, List.setIfInBounds_toArray, List.set_cons_zero, List.set_cons_succ]
          refine wpAnyB_takeP (i := 8) (some 13) (Op.assign (Operand.tmp 62)) 30 (v := ?_) ⟨_, rfl, rfl, rfl, rfl, rfl⟩ (by kernel_rfl) (by kernel_rfl) (by kernel_rfl) (by kernel_rfl) (fun _ _ _ h => h) (fun h => absurd (h.symm.trans (by kernel_rfl : _ = true)) (by decide)) (fun w' => ?_) ?_
          rotate_left
          · unfold bareOp
            go_simp
            try with_reducible rfl
          simp only [Act.put, List.setIfInBounds_toArray, List.set_cons_zero, List.set_cons_succ]
          refine wpAnyB_done (by kernel_rfl) ?_ _
          replace F_j := Lib.hid (F_j.out.stored 0 0)
          replace F_c := Lib.hid ((F_c.out.far (o := 0) ne_c (.int .u64 0)).far (o := 1) ne_c (.int .u64 0))
          clear ne_c
          replace HBW := Lib.hid ((HBW.out.setCell (p := ⟨w11.heap.size, 0, none⟩) ltB (.int .u64 0)).setCell (p := ⟨w11.heap.size, 1, none⟩) ltB (.int .u64 0))
          clear ltB
          go_wp2_with fail
          go_meet
          case rel => exact ⟨rfl, ⟨F_c.out, HBW.out⟩⟩
      · skip
        unfold bareOp
        go_wp2_with fail
        have ltB : w.heap.size ≤ w10.heap.size + 1 := by have h := HBW.out.size; (try simp only [World.size_alloc, World.size_drew, World.size_setCell] at h); omega
        have ne_c : w10.heap.size + 1 ≠ w.heap.size := by have h := F_c.out.lt; (try simp only [World.size_alloc, World.size_drew, World.size_setCell] at h); omega
        replace F_c := Lib.hid (F_c.out.alloc (.cells #[.int .u64 0, .int .u64 0] 26))
        have F_j := Lib.hid (Pair.at ((w10.drew.alloc BIG)) 0 0 26 (w10.heap.size + 1) (by simp))
        replace HBW := Lib.hid (HBW.out.alloc HBW.out.size (.cells #[.int .u64 0, .int .u64 0] 26))
        replace hS := F_c.out.s
        refine hK.out _ _ (fun _ => hS) ?_
        clear hK K
        try simp only [Act.put, List.setIfInBounds_toArray, List.set_cons_zero, List.set_cons_succ]
        refine wpAnyB_only (i := 0) (some 58) (Op.call { callee := Callee.value (Operand.func 33), args := #[], argTypes := #[] }) 24 ⟨_, rfl, rfl, rfl, rfl, rfl⟩ (by kernel_rfl) (fun K hK => ?_)
        unfold bareOp
        go_wp2_with (go_at_call 33; refine (small_any _).mono ?_; rintro e w11 ⟨rfl, hb11⟩)
        replace F_c := Lib.hid (F_c.out.keep hb11)
        replace F_j := Lib.hid (F_j.out.keep hb11)
        replace HBW := Lib.hid (HBW.out.trans (hb11.mono HBW.out.size))
        replace hS := F_c.out.s
        clear hb11
        refine hK.out _ _ (fun _ => hS) ?_
        clear hK K
        try simp only [Act.put, List.setIfInBounds_toArray, List.set_cons_zero, List.set_cons_succ]
        refine wpAnyB_only (i := 2) (some 60) (Op.call { callee := Callee.value (Operand.func 15), args := #[Operand.tmp 58, Operand.tmp 59], argTypes := #[24, 27] }) 31 ⟨_, rfl, rfl, rfl, rfl, rfl⟩ (by kernel_rfl) (fun K hK => ?_)
        unfold bareOp
        go_wp2_with (go_at_call 15; refine (esum_many _ (by decide) (by decide) (by decide) has_small (by decide)).mono ?_; rintro e w12 ⟨rfl, hb12⟩)
        replace F_c := Lib.hid (F_c.out.keep hb12)
        replace F_j := Lib.hid (F_j.out.keep hb12)
        replace HBW := Lib.hid (HBW.out.trans (hb12.mono HBW.out.size))
        replace hS := F_c.out.s
        clear hb12
        refine hK.out _ _ (fun h => absurd (h.symm.trans (by kernel_rfl : _ = true)) (by decide)) ?_
        clear hK K
        try simp only [Act.put, List.setIfInBounds_toArray, List.set_cons_zero, List.set_cons_succ]
        refine wpAnyB_takeP (i := 3) (some 57) (Op.move (Operand.tmp 60)) 31 (v := ?_) ⟨_, rfl, rfl, rfl, rfl, rfl⟩ (by kernel_rfl) (by kernel_rfl) (by kernel_rfl) (by kernel_rfl) (fun _ _ _ h => h) (fun h => absurd (h.symm.trans (by kernel_rfl : _ = true)) (by decide)) (fun w' => ?_) ?_
        rotate_left
        · unfold bareOp
          go_simp
          try with_reducible rfl
        simp only [Act.put, List.setIfInBounds_toArray, List.set_cons_zero, List.set_cons_succ]
        refine wpAnyB_takeP (i := 4) (some 61) (Op.extract (Operand.tmp 57) 0) 26 (v := ?_) ⟨_, rfl, rfl, rfl, rfl, rfl⟩ (by kernel_rfl) (by kernel_rfl) (by kernel_rfl) (by kernel_rfl) (fun _ _ _ h => h) (fun h => absurd (h.symm.trans (by kernel_rfl : _ = true)) (by decide)) (fun w' => ?_) ?_
        rotate_left
        · unfold bareOp
          go_simp
          try with_reducible rfl
        simp only [Act.put, List.setIfInBounds_toArray, List.set_cons_zero, List.set_cons_succ]
        refine wpAnyB_takeP (i := 5) (some 62) (Op.extract (Operand.tmp 57) 1) 30 (v := ?_) ⟨_, rfl, rfl, rfl, rfl, rfl⟩ (by kernel_rfl) (by kernel_rfl) (by kernel_rfl) (by kernel_rfl) (fun _ _ _ h => h) (fun h => absurd (h.symm.trans (by kernel_rfl : _ = true)) (by decide)) (fun w' => ?_) ?_
        rotate_left
        · unfold bareOp
          go_simp
          try with_reducible rfl
        simp only [Act.put, List.setIfInBounds_toArray, List.set_cons_zero, List.set_cons_succ]
        refine wpAnyB_only (i := 7) none (Op.store 26 (Operand.tmp 12) (Operand.tmp 61)) 0 ⟨_, rfl, rfl, rfl, rfl, rfl⟩ (by kernel_rfl) (fun K hK => ?_)
        unfold bareOp
        obtain ⟨za, zb, zc, zd, -⟩ := id F_j.out
        go_wp2_with fail
        clear za zb zc zd
        refine hK.out _ _ (fun h => absurd (h.symm.trans (by kernel_rfl : _ = true)) (by decide)) ?_
        clear hK K
        try simp only [Act.put, List.setIfInBounds_toArray, List.set_cons_zero, List.set_cons_succ]
        refine wpAnyB_takeP (i := 8) (some 13) (Op.assign (Operand.tmp 62)) 30 (v := ?_) ⟨_, rfl, rfl, rfl, rfl, rfl⟩ (by kernel_rfl) (by kernel_rfl) (by kernel_rfl) (by kernel_rfl) (fun _ _ _ h => h) (fun h => absurd (h.symm.trans (by kernel_rfl : _ = true)) (by decide)) (fun w' => ?_) ?_
        rotate_left
        · unfold bareOp
          go_simp
          try with_reducible rfl
        simp only [Act.put, List.setIfInBounds_toArray, List.set_cons_zero, List.set_cons_succ]
        refine wpAnyB_done (by kernel_rfl) ?_ _
        replace F_j := Lib.hid (F_j.out.stored 0 0)
        replace F_c := Lib.hid ((F_c.out.far (o := 0) ne_c (.int .u64 0)).far (o := 1) ne_c (.int .u64 0))
        clear ne_c
        replace HBW := Lib.hid ((HBW.out.setCell (p := ⟨w10.heap.size + 1, 0, none⟩) ltB (.int .u64 0)).setCell (p := ⟨w10.heap.size + 1, 1, none⟩) ltB (.int .u64 0))
        clear ltB
        go_wp2_with fail
        go_meet
        case rel => exact ⟨rfl, ⟨F_c.out, HBW.out⟩⟩
    · skip
      unfold bareOp
      go_wp2_with fail
      have ltB : w.heap.size ≤ w10.heap.size := by have h := HBW.out.size; (try simp only [World.size_alloc, World.size_drew, World.size_setCell] at h); omega
      have ne_c : w10.heap.size ≠ w.heap.size := by have h := F_c.out.lt; (try simp only [World.size_alloc, World.size_drew, World.size_setCell] at h); omega
      replace F_c := Lib.hid (F_c.out.alloc (.cells #[.int .u64 0, .int .u64 0] 26))
      have F_j := Lib.hid (Pair.at w10.drew 0 0 26 (w10.heap.size) (by simp))
      replace HBW := Lib.hid (HBW.out.alloc HBW.out.size (.cells #[.int .u64 0, .int .u64 0] 26))
      replace hS := F_c.out.s
      refine hK.out _ _ (fun _ => hS) ?_
      clear hK K
      try simp only [Act.put, List.setIfInBounds_toArray, List.set_cons_zero, List.set_cons_succ]
      refine wpAnyB_two (i := 0) (j := 1) (some 58) (Op.call { callee := Callee.value (Operand.func 33), args := #[], argTypes := #[] }) 24 (some 59) (Op.makeSlice 27 (Operand.const (Value.int IntKind.i64 4097)) (Operand.const (Value.int IntKind.i64 4097))) 27 ⟨_, rfl, rfl, rfl, rfl, rfl⟩ ⟨_, rfl, rfl, rfl, rfl, rfl⟩ (by kernel_rfl) (fun K hK => ?_) (fun K hK => ?_)
      · skip
        unfold bareOp
        go_wp2_with (go_at_call 33; refine (small_any _).mono ?_; rintro e w11 ⟨rfl, hb11⟩)
        replace F_c := Lib.hid (F_c.out.keep hb11)
        replace F_j := Lib.hid (F_j.out.keep hb11)
        replace HBW := Lib.hid (HBW.out.trans (hb11.mono HBW.out.size))
        replace hS := F_c.out.s
        clear hb11
        refine hK.out _ _ (fun _ => hS) ?_
        clear hK K
        try simp only [Act.put, List.setIfInBounds_toArray, List.set_cons_zero, List.set_cons_succ]
        refine wpAnyB_only (i := 1) (some 59) (Op.makeSlice 27 (Operand.const (Value.int IntKind.i64 4097)) (Operand.const (Value.int IntKind.i64 4097))) 27 ⟨_, rfl, rfl, rfl, rfl, rfl⟩ (by kernel_rfl) (fun K hK => ?_)
        unfold bareOp
        go_wp2_with fail
        replace F_c := Lib.hid (F_c.out.alloc BIG)
        replace F_j := Lib.hid (F_j.out.alloc BIG)
        replace HBW := Lib.hid (HBW.out.alloc HBW.out.size BIG)
        replace hS := F_c.out.s
        refine hK.out _ _ (fun _ => hS) ?_
        clear hK K
        try simp only [Act.put, List.setIfInBounds_toArray, List.set_cons_zero, List.set_cons_succ]
        refine wpAnyB_only (i := 2) (some 60) (Op.call { callee := Callee.value (Operand.func 15), args := #[Operand.tmp 58, Operand.tmp 59], argTypes := #[24, 27] }) 31 ⟨_, rfl, rfl, rfl, rfl, rfl⟩ (by kernel_rfl) (fun K hK => ?_)
        unfold bareOp
        go_wp2_with (go_at_call 15; refine (esum_many _ (by decide) (by decide) (by decide) has_small (by decide)).mono ?_; rintro e w12 ⟨rfl, hb12⟩)
        replace F_c := Lib.hid (F_c.out.keep hb12)
        replace F_j := Lib.hid (F_j.out.keep hb12)
        replace HBW := Lib.hid (HBW.out.trans (hb12.mono HBW.out.size))
        replace hS := F_c.out.s
        clear hb12
        refine hK.out _ _ (fun h => absurd (h.symm.trans (by kernel_rfl : _ = true)) (by decide)) ?_
        clear hK K
        try simp only [Act.put, List.setIfInBounds_toArray, List.set_cons_zero, List.set_cons_succ]
        refine wpAnyB_takeP (i := 3) (some 57) (Op.move (Operand.tmp 60)) 31 (v := ?_) ⟨_, rfl, rfl, rfl, rfl, rfl⟩ (by kernel_rfl) (by kernel_rfl) (by kernel_rfl) (by kernel_rfl) (fun _ _ _ h => h) (fun h => absurd (h.symm.trans (by kernel_rfl : _ = true)) (by decide)) (fun w' => ?_) ?_
        rotate_left
        · unfold bareOp
          go_simp
          try with_reducible rfl
        simp only [Act.put, List.setIfInBounds_toArray, List.set_cons_zero, List.set_cons_succ]
        refine wpAnyB_takeP (i := 4) (some 61) (Op.extract (Operand.tmp 57) 0) 26 (v := ?_) ⟨_, rfl, rfl, rfl, rfl, rfl⟩ (by kernel_rfl) (by kernel_rfl) (by kernel_rfl) (by kernel_rfl) (fun _ _ _ h => h) (fun h => absurd (h.symm.trans (by kernel_rfl : _ = true)) (by decide)) (fun w' => ?_) ?_
        rotate_left
        · unfold bareOp
          go_simp
          try with_reducible rfl
        simp only [Act.put, List.setIfInBounds_toArray, List.set_cons_zero, List.set_cons_succ]
        refine wpAnyB_takeP (i := 5) (some 62) (Op.extract (Operand.tmp 57) 1) 30 (v := ?_) ⟨_, rfl, rfl, rfl, rfl, rfl⟩ (by kernel_rfl) (by kernel_rfl) (by kernel_rfl) (by kernel_rfl) (fun _ _ _ h => h) (fun h => absurd (h.symm.trans (by kernel_rfl : _ = true)) (by decide)) (fun w' => ?_) ?_
        rotate_left
        · unfold bareOp
          go_simp
          try with_reducible rfl
        simp only [Act.put, List.setIfInBounds_toArray, List.set_cons_zero, List.set_cons_succ]
        refine wpAnyB_only (i := 7) none (Op.store 26 (Operand.tmp 12) (Operand.tmp 61)) 0 ⟨_, rfl, rfl, rfl, rfl, rfl⟩ (by kernel_rfl) (fun K hK => ?_)
        unfold bareOp
        obtain ⟨za, zb, zc, zd, -⟩ := id F_j.out
        go_wp2_with fail
        clear za zb zc zd
        refine hK.out _ _ (fun h => absurd (h.symm.trans (by kernel_rfl : _ = true)) (by decide)) ?_
        clear hK K
        try simp only [Act.put, List.setIfInBounds_toArray, List.set_cons_zero, List.set_cons_succ]
        refine wpAnyB_takeP (i := 8) (some 13) (Op.assign (Operand.tmp 62)) 30 (v := ?_) ⟨_, rfl, rfl, rfl, rfl, rfl⟩ (by kernel_rfl) (by kernel_rfl) (by kernel_rfl) (by kernel_rfl) (fun _ _ _ h => h) (fun h => absurd (h.symm.trans (by kernel_rfl : _ = true)) (by decide)) (fun w' => ?_) ?_
        rotate_left
        · unfold bareOp
          go_simp
          try with_reducible rfl
        simp only [Act.put, List.setIfInBounds_toArray, List.set_cons_zero, List.set_cons_succ]
        refine wpAnyB_done (by kernel_rfl) ?_ _
        replace F_j := Lib.hid (F_j.out.stored 0 0)
        replace F_c := Lib.hid ((F_c.out.far (o := 0) ne_c (.int .u64 0)).far (o := 1) ne_c (.int .u64 0))
        clear ne_c
        replace HBW := Lib.hid ((HBW.out.setCell (p := ⟨w10.heap.size, 0, none⟩) ltB (.int .u64 0)).setCell (p := ⟨w10.heap.size, 1, none⟩) ltB (.int .u64 0))
        clear ltB
        go_wp2_with fail
        go_meet
        case rel => exact ⟨rfl, ⟨F_c.out, HBW.out⟩⟩
      · skip
        unfold bareOp
        go_wp2_with fail
        replace F_c := Lib.hid (F_c.out.alloc BIG)
        replace F_j := Lib.hid (F_j.out.alloc BIG)
        replace HBW := Lib.hid (HBW.out.alloc HBW.out.size BIG)
        replace hS := F_c.out.s
        refine hK.out _ _ (fun _ => hS) ?_
        clear hK K
        try simp only [Act.put, List.setIfInBounds_toArray, List.set_cons_zero, List.set_cons_succ]
        refine wpAnyB_only (i := 0) (some 58) (Op.call { callee := Callee.value (Operand.func 33), args := #[], argTypes := #[] }) 24 ⟨_, rfl, rfl, rfl, rfl, rfl⟩ (by kernel_rfl) (fun K hK => ?_)
        unfold bareOp
        go_wp2_with (go_at_call 33; refine (small_any _).mono ?_; rintro e w11 ⟨rfl, hb11⟩)
        replace F_c := Lib.hid (F_c.out.keep hb11)
        replace F_j := Lib.hid (F_j.out.keep hb11)
        replace HBW := Lib.hid (HBW.out.trans (hb11.mono HBW.out.size))
        replace hS := F_c.out.s
        clear hb11
        refine hK.out _ _ (fun _ => hS) ?_
        clear hK K
        try simp only [Act.put, List.setIfInBounds_toArray, List.set_cons_zero, List.set_cons_succ]
        refine wpAnyB_only (i := 2) (some 60) (Op.call { callee := Callee.value (Operand.func 15), args := #[Operand.tmp 58, Operand.tmp 59], argTypes := #[24, 27] }) 31 ⟨_, rfl, rfl, rfl, rfl, rfl⟩ (by kernel_rfl) (fun K hK => ?_)
        unfold bareOp
        go_wp2_with (go_at_call 15; refine (esum_many _ (by decide) (by decide) (by decide) has_small (by decide)).mono ?_; rintro e w12 ⟨rfl, hb12⟩)
        replace F_c := Lib.hid (F_c.out.keep hb12)
        replace F_j := Lib.hid (F_j.out.keep hb12)
        replace HBW := Lib.hid (HBW.out.trans (hb12.mono HBW.out.size))
        replace hS := F_c.out.s
        clear hb12
        refine hK.out _ _ (fun h => absurd (h.symm.trans (by kernel_rfl : _ = true)) (by decide)) ?_
        clear hK K
        try simp only [Act.put, List.setIfInBounds_toArray, List.set_cons_zero, List.set_cons_succ]
        refine wpAnyB_takeP (i := 3) (some 57) (Op.move (Operand.tmp 60)) 31 (v := ?_) ⟨_, rfl, rfl, rfl, rfl, rfl⟩ (by kernel_rfl) (by kernel_rfl) (by kernel_rfl) (by kernel_rfl) (fun _ _ _ h => h) (fun h => absurd (h.symm.trans (by kernel_rfl : _ = true)) (by decide)) (fun w' => ?_) ?_
        rotate_left
        · unfold bareOp
          go_simp
          try with_reducible rfl
        simp only [Act.put, List.setIfInBounds_toArray, List.set_cons_zero, List.set_cons_succ]
        refine wpAnyB_takeP (i := 4) (some 61) (Op.extract (Operand.tmp 57) 0) 26 (v := ?_) ⟨_, rfl, rfl, rfl, rfl, rfl⟩ (by kernel_rfl) (by kernel_rfl) (by kernel_rfl) (by kernel_rfl) (fun _ _ _ h => h) (fun h => absurd (h.symm.trans (by kernel_rfl : _ = true)) (by decide)) (fun w' => ?_) ?_
        rotate_left
        · unfold bareOp
          go_simp
          try with_reducible rfl
        simp only [Act.put, List.setIfInBounds_toArray, List.set_cons_zero, List.set_cons_succ]
        refine wpAnyB_takeP (i := 5) (some 62) (Op.extract (Operand.tmp 57) 1) 30 (v := ?_) ⟨_, rfl, rfl, rfl, rfl, rfl⟩ (by kernel_rfl) (by kernel_rfl) (by kernel_rfl) (by kernel_rfl) (fun _ _ _ h => h) (fun h => absurd (h.symm.trans (by kernel_rfl : _ = true)) (by decide)) (fun w' => ?_) ?_
        rotate_left
        · unfold bareOp
          go_simp
          try with_reducible rfl
        simp only [Act.put, List.setIfInBounds_toArray, List.set_cons_zero, List.set_cons_succ]
        refine wpAnyB_only (i := 7) none (Op.store 26 (Operand.tmp 12) (Operand.tmp 61)) 0 ⟨_, rfl, rfl, rfl, rfl, rfl⟩ (by kernel_rfl) (fun K hK => ?_)
        unfold bareOp
        obtain ⟨za, zb, zc, zd, -⟩ := id F_j.out
        go_wp2_with fail
        clear za zb zc zd
        refine hK.out _ _ (fun h => absurd (h.symm.trans (by kernel_rfl : _ = true)) (by decide)) ?_
        clear hK K
        try simp only [Act.put, List.setIfInBounds_toArray, List.set_cons_zero, List.set_cons_succ]
        refine wpAnyB_takeP (i := 8) (some 13) (Op.assign (Operand.tmp 62)) 30 (v := ?_) ⟨_, rfl, rfl, rfl, rfl, rfl⟩ (by kernel_rfl) (by kernel_rfl) (by kernel_rfl) (by kernel_rfl) (fun _ _ _ h => h) (fun h => absurd (h.symm.trans (by kernel_rfl : _ = true)) (by decide)) (fun w' => ?_) ?_
        rotate_left
        · unfold bareOp
          go_simp
          try with_reducible rfl
        simp only [Act.put, List.setIfInBounds_toArray, List.set_cons_zero, List.set_cons_succ]
        refine wpAnyB_done (by kernel_rfl) ?_ _
        replace F_j := Lib.hid (F_j.out.stored 0 0)
        replace F_c := Lib.hid ((F_c.out.far (o := 0) ne_c (.int .u64 0)).far (o := 1) ne_c (.int .u64 0))
        clear ne_c
        replace HBW := Lib.hid ((HBW.out.setCell (p := ⟨w10.heap.size, 0, none⟩) ltB (.int .u64 0)).setCell (p := ⟨w10.heap.size, 1, none⟩) ltB (.int .u64 0))
        clear ltB
        go_wp2_with fail
        go_meet
        case rel => exact ⟨rfl, ⟨F_c.out, HBW.out⟩⟩
  case rest =>
    obtain ⟨rfl, HC⟩ := hcut
    replace F_c := Lib.hid HC.out.c
    replace HBW := Lib.hid HC.out.bel
    clear HC
    obtain ⟨x0a, x0b, x0c, x0d, -⟩ := id F_c.out
    go_wp2_with fail
    clear x0a x0b x0c x0d
    refine (small_any _).mono ?_
    rintro e w31 ⟨rfl, hb31⟩
    replace F_c := Lib.hid (F_c.out.keep hb31)
    replace HBW := Lib.hid (HBW.out.trans (hb31.mono HBW.out.size))
    clear hb31
    obtain ⟨x0a, x0b, x0c, x0d, -⟩ := id F_c.out
    go_wp2_with fail
    clear x0a x0b x0c x0d
    refine (esum_any _ (by decide) (by decide) (by decide) (ShS.nil _ _) (fun p hp => by cases hp) sumN1).mono ?_
    rintro e w32 ⟨rfl, hb32⟩
    replace F_c := Lib.hid (F_c.out.keep hb32)
    replace HBW := Lib.hid (HBW.out.trans (hb32.mono HBW.out.size))
    clear hb32
    replace F_c := Lib.hid (F_c.out.alloc (.cells #[.int .u64 1, .int .u64 1] 26))
    have F_s := Lib.hid (Pair.new w32 1 1 26)
    replace HBW := Lib.hid (HBW.out.alloc HBW.out.size (.cells #[.int .u64 1, .int .u64 1] 26))
    obtain ⟨x0a, x0b, x0c, x0d, -⟩ := id F_c.out
    obtain ⟨x1a, x1b, x1c, x1d, -⟩ := id F_s.out
    go_wp2_with fail
    clear x0a x0b x0c x0d x1a x1b x1c x1d
    refine (small_any _).mono ?_
    rintro e w33 ⟨rfl, hb33⟩
    replace F_c := Lib.hid (F_c.out.keep hb33)
    replace F_s := Lib.hid (F_s.out.keep hb33)
    replace HBW := Lib.hid (HBW.out.trans (hb33.mono HBW.out.size))
    clear hb33
    obtain ⟨x0a, x0b, x0c, x0d, -⟩ := id F_c.out
    obtain ⟨x1a, x1b, x1c, x1d, -⟩ := id F_s.out
    go_wp2_with fail
    clear x0a x0b x0c x0d x1a x1b x1c x1d
    replace F_c := Lib.hid (F_c.out.alloc (.cells #[.int .u64 1, .int .u64 23] 26))
    replace F_s := Lib.hid (F_s.out.alloc (.cells #[.int .u64 1, .int .u64 23] 26))
    have hsl : ShS (w33.alloc (.cells #[.int .u64 1, .int .u64 23] 26)) (some ⟨w33.heap.size, 0, none⟩) 1 [(1, 23)] := .inr ⟨_, 0, rfl, rfl, by simp, fun i hi => by
      obtain rfl : i = 0 := by simpa using hi
      have h := Pair.new w33 1 23 26
      exact ⟨h.c0, h.c1⟩⟩
    replace HBW := Lib.hid (HBW.out.alloc HBW.out.size (.cells #[.int .u64 1, .int .u64 23] 26))
    refine (esum_any _ (by decide) (by decide) (by decide) hsl (fun p hp => by simp at hp; subst hp; exact ⟨by decide, by decide⟩) sumN2).mono ?_
    rintro e w34 ⟨rfl, hb34⟩
    replace F_c := Lib.hid (F_c.out.keep hb34)
    replace F_s := Lib.hid (F_s.out.keep hb34)
    replace HBW := Lib.hid (HBW.out.trans (hb34.mono HBW.out.size))
    clear hb34
    clear hsl
    replace F_c := Lib.hid (F_c.out.alloc (.cells #[.int .u64 0, .int .u64 0] 26))
    replace F_s := Lib.hid (F_s.out.alloc (.cells #[.int .u64 0, .int .u64 0] 26))
    have F_l1 := Lib.hid (Pair.new w34 0 0 26)
    replace HBW := Lib.hid (HBW.out.alloc HBW.out.size (.cells #[.int .u64 0, .int .u64 0] 26))
    clear F_l1
    obtain ⟨x0a, x0b, x0c, x0d, -⟩ := id F_c.out
    obtain ⟨x1a, x1b, x1c, x1d, -⟩ := id F_s.out
    go_wp2_with fail
    clear x0a x0b x0c x0d x1a x1b x1c x1d
    replace F_c := Lib.hid (F_c.out.alloc BIG)
    replace F_s := Lib.hid (F_s.out.alloc BIG)
    replace HBW := Lib.hid (HBW.out.alloc HBW.out.size BIG)
    refine (esum_no _ (by decide) (by decide) (by decide) not_has0).mono ?_
    rintro e w35 ⟨rfl, hb35⟩
    replace F_c := Lib.hid (F_c.out.keep hb35)
    replace F_s := Lib.hid (F_s.out.keep hb35)
    replace HBW := Lib.hid (HBW.out.trans (hb35.mono HBW.out.size))
    clear hb35
    replace F_c := Lib.hid (F_c.out.alloc (.cells #[.int .u64 0, .int .u64 0] 26))
    replace F_s := Lib.hid (F_s.out.alloc (.cells #[.int .u64 0, .int .u64 0] 26))
    have F_m1 := Lib.hid (Pair.new w35 0 0 26)
    replace HBW := Lib.hid (HBW.out.alloc HBW.out.size (.cells #[.int .u64 0, .int .u64 0] 26))
    clear F_m1
    obtain ⟨x0a, x0b, x0c, x0d, -⟩ := id F_c.out
    obtain ⟨x1a, x1b, x1c, x1d, -⟩ := id F_s.out
    go_wp2_with fail
    clear x0a x0b x0c x0d x1a x1b x1c x1d
    replace F_c := Lib.hid F_c.out.drew
    replace F_s := Lib.hid F_s.out.drew
    replace HBW := Lib.hid HBW.out.drew
    have hS := F_c.out.s
    refine wp_region_stage 2 (fun w' => SPair w' w.heap.size 12 2) (by kernel_rfl) ?_
    refine wpAnyB_take (i := 1) (some 83) (Op.load 26 (Operand.tmp 1)) 26 (v := ?_) ⟨_, rfl, rfl, rfl, rfl, rfl⟩ (by kernel_rfl) (by kernel_rfl) (by kernel_rfl) [2] (by kernel_rfl) (fun _ _ _ h => h) hS (fun w' hSw => ?_) ?_
    rotate_left
    · obtain ⟨s0, s1⟩ := hSw
      unfold bareOp
      go_simp
      try with_reducible rfl
    simp only [Act.put, List.setIfInBounds_toArray, List.set_cons_zero, List.set_cons_succ]
    refine wpAnyB_only (i := 0) (some 82) (Op.call { callee := Callee.value (Operand.func 33), args := #[], argTypes := #[] }) 24 ⟨_, rfl, rfl, rfl, rfl, rfl⟩ (by kernel_rfl) (fun K hK => ?_)
    unfold bareOp
    go_wp2_with (go_at_call 33; refine (small_any _).mono ?_; rintro e w36 ⟨rfl, hb36⟩)
    replace F_c := Lib.hid (F_c.out.keep hb36)
    replace F_s := Lib.hid (F_s.out.keep hb36)
    replace HBW := Lib.hid (HBW.out.trans (hb36.mono HBW.out.size))
    replace hS := F_c.out.s
    clear hb36
    refine hK.out _ _ (fun _ => hS) ?_
    clear hK K
    try simp only [Act.put, List.setIfInBounds_toArray, List.set_cons_zero, List.set_cons_succ]
    refine wpAnyB_only (i := 2) (some 84) (Op.call { callee := Callee.value (Operand.func 21), args := #[Operand.tmp 82, Operand.tmp 83], argTypes := #[24, 26] }) 43 ⟨_, rfl, rfl, rfl, rfl, rfl⟩ (by kernel_rfl) (fun K hK => ?_)
    unfold bareOp
    go_wp2_with (go_at_call 21; refine (evalid_gen _ (by decide) (by decide) (by decide) (by decide) (by decide) valN1).mono ?_; rintro e w37 ⟨rfl, hb37⟩)
    replace F_c := Lib.hid (F_c.out.keep hb37)
    replace F_s := Lib.hid (F_s.out.keep hb37)
    replace HBW := Lib.hid (HBW.out.trans (hb37.mono HBW.out.size))
    replace hS := F_c.out.s
    clear hb37
    refine hK.out _ _ (fun h => absurd (h.symm.trans (by kernel_rfl : _ = true)) (by decide)) ?_
    clear hK K
    try simp only [Act.put, List.setIfInBounds_toArray, List.set_cons_zero, List.set_cons_succ]
    refine wpAnyB_takeP (i := 3) (some 81) (Op.move (Operand.tmp 84)) 43 (v := ?_) ⟨_, rfl, rfl, rfl, rfl, rfl⟩ (by kernel_rfl) (by kernel_rfl) (by kernel_rfl) (by kernel_rfl) (fun _ _ _ h => h) (fun h => absurd (h.symm.trans (by kernel_rfl : _ = true)) (by decide)) (fun w' => ?_) ?_
    rotate_left
    · unfold bareOp
      go_simp
      try with_reducible rfl
    simp only [Act.put, List.setIfInBounds_toArray, List.set_cons_zero, List.set_cons_succ]
    refine wpAnyB_takeP (i := 4) (some 85) (Op.extract (Operand.tmp 81) 0) 4 (v := ?_) ⟨_, rfl, rfl, rfl, rfl, rfl⟩ (by kernel_rfl) (by kernel_rfl) (by kernel_rfl) (by kernel_rfl) (fun _ _ _ h => h) (fun h => absurd (h.symm.trans (by kernel_rfl : _ = true)) (by decide)) (fun w' => ?_) ?_
    rotate_left
    · unfold bareOp
      go_simp
      try with_reducible rfl
    simp only [Act.put, List.setIfInBounds_toArray, List.set_cons_zero, List.set_cons_succ]
    refine wpAnyB_takeP (i := 5) (some 86) (Op.extract (Operand.tmp 81) 1) 30 (v := ?_) ⟨_, rfl, rfl, rfl, rfl, rfl⟩ (by kernel_rfl) (by kernel_rfl) (by kernel_rfl) (by kernel_rfl) (fun _ _ _ h => h) (fun h => absurd (h.symm.trans (by kernel_rfl : _ = true)) (by decide)) (fun w' => ?_) ?_
    rotate_left
    · unfold bareOp
      go_simp
      try with_reducible rfl
    simp only [Act.put, List.setIfInBounds_toArray, List.set_cons_zero, List.set_cons_succ]
    refine wpAnyB_takeP (i := 6) (some 20) (Op.assign (Operand.tmp 85)) 4 (v := ?_) ⟨_, rfl, rfl, rfl, rfl, rfl⟩ (by kernel_rfl) (by kernel_rfl) (by kernel_rfl) (by kernel_rfl) (fun _ _ _ h => h) (fun h => absurd (h.symm.trans (by kernel_rfl : _ = true)) (by decide)) (fun w' => ?_) ?_
    rotate_left
    · unfold bareOp
      go_simp
      try with_reducible rfl
    simp only [Act.put, List.setIfInBounds_toArray, List.set_cons_zero, List.set_cons_succ]
    refine wpAnyB_takeP (i := 7) (some 21) (Op.assign (Operand.tmp 86)) 30 (v := ?_) ⟨_, rfl, rfl, rfl, rfl, rfl⟩ (by kernel_rfl) (by kernel_rfl) (by kernel_rfl) (by kernel_rfl) (fun _ _ _ h => h) (fun h => absurd (h.symm.trans (by kernel_rfl : _ = true)) (by decide)) (fun w' => ?_) ?_
    rotate_left
    · unfold bareOp
      go_simp
      try with_reducible rfl
    simp only [Act.put, List.setIfInBounds_toArray, List.set_cons_zero, List.set_cons_succ]
    refine wpAnyB_done (by kernel_rfl) ?_ _
    obtain ⟨x0a, x0b, x0c, x0d, -⟩ := id F_c.out
    obtain ⟨x1a, x1b, x1c, x1d, -⟩ := id F_s.out
    go_wp2_with fail
    clear x0a x0b x0c x0d x1a x1b x1c x1d
    refine (small_any _).mono ?_
    rintro e w38 ⟨rfl, hb38⟩
    replace F_c := Lib.hid (F_c.out.keep hb38)
    replace F_s := Lib.hid (F_s.out.keep hb38)
    replace HBW := Lib.hid (HBW.out.trans (hb38.mono HBW.out.size))
    clear hb38
    obtain ⟨x0a, x0b, x0c, x0d, -⟩ := id F_c.out
    obtain ⟨x1a, x1b, x1c, x1d, -⟩ := id F_s.out
    go_wp2_with fail
    clear x0a x0b x0c x0d x1a x1b x1c x1d
    refine (evalid_gen _ (by decide) (by decide) (by decide) (by decide) (by decide) valN2).mono ?_
    rintro e w39 ⟨rfl, hb39⟩
    replace F_c := Lib.hid (F_c.out.keep hb39)
    replace F_s := Lib.hid (F_s.out.keep hb39)
    replace HBW := Lib.hid (HBW.out.trans (hb39.mono HBW.out.size))
    clear hb39
    obtain ⟨x0a, x0b, x0c, x0d, -⟩ := id F_c.out
    obtain ⟨x1a, x1b, x1c, x1d, -⟩ := id F_s.out
    go_wp2_with fail
    clear x0a x0b x0c x0d x1a x1b x1c x1d
    refine (small_any _).mono ?_
    rintro e w40 ⟨rfl, hb40⟩
    replace F_c := Lib.hid (F_c.out.keep hb40)
    replace F_s := Lib.hid (F_s.out.keep hb40)
    replace HBW := Lib.hid (HBW.out.trans (hb40.mono HBW.out.size))
    clear hb40
    obtain ⟨x0a, x0b, x0c, x0d, -⟩ := id F_c.out
    obtain ⟨x1a, x1b, x1c, x1d, -⟩ := id F_s.out
    go_wp2_with fail
    clear x0a x0b x0c x0d x1a x1b x1c x1d
    refine (edecrypt_gen _ (by decide) (by decide) (by decide) (by decide) (by decide) (by decide) decN3).mono ?_
    rintro e w41 ⟨rfl, hb41⟩
    replace F_c := Lib.hid (F_c.out.keep hb41)
    replace F_s := Lib.hid (F_s.out.keep hb41)
    replace HBW := Lib.hid (HBW.out.trans (hb41.mono HBW.out.size))
    clear hb41
    obtain ⟨x0a, x0b, x0c, x0d, -⟩ := id F_c.out
    obtain ⟨x1a, x1b, x1c, x1d, -⟩ := id F_s.out
    go_wp2_with fail
    clear x0a x0b x0c x0d x1a x1b x1c x1d
    replace F_c := Lib.hid F_c.out.drew
    replace F_s := Lib.hid F_s.out.drew
    replace HBW := Lib.hid HBW.out.drew
    have hS := F_c.out.s
    refine wp_region_stage 2 (fun w' => SPair w' w.heap.size 12 2) (by kernel_rfl) ?_
    refine wpAnyB_take (i := 1) (some 101) (Op.load 26 (Operand.tmp 1)) 26 (v := ?_) ⟨_, rfl, rfl, rfl, rfl, rfl⟩ (by kernel_rfl) (by kernel_rfl) (by kernel_rfl) [2] (by kernel_rfl) (fun _ _ _ h => h) hS (fun w' hSw => ?_) ?_
    rotate_left
    · obtain ⟨s0, s1⟩ := hSw
      unfold bareOp
      go_simp
      try with_reducible rfl
    simp only [Act.put, List.setIfInBounds_toArray, List.set_cons_zero, List.set_cons_succ]
    refine wpAnyB_two (i := 0) (j := 6) (some 100) (Op.call { callee := Callee.value (Operand.func 33), args := #[], argTypes := #[] }) 24 (some 26) (Op.alloc 26) 0 ⟨_, rfl, rfl, rfl, rfl, rfl⟩ ⟨_, rfl, rfl, rfl, rfl, rfl⟩ (by kernel_rfl) (fun K hK => ?_) (fun K hK => ?_)
    · skip
      unfold bareOp
      go_wp2_with (go_at_call 33; refine (small_any _).mono ?_; rintro e w42 ⟨rfl, hb42⟩)
      replace F_c := Lib.hid (F_c.out.keep hb42)
      replace F_s := Lib.hid (F_s.out.keep hb42)
      replace HBW := Lib.hid (HBW.out.trans (hb42.mono HBW.out.size))
      replace hS := F_c.out.s
      clear hb42
      refine hK.out _ _ (fun _ => hS) ?_
      clear hK K
      try simp only [Act.put, List.setIfInBounds_toArray, List.set_cons_zero, List.set_cons_succ]
      refine wpAnyB_two (i := 2) (j := 6) (some 102) (Op.call { callee := Callee.value (Operand.func 23), args := #[Operand.tmp 100, Operand.const (Value.int IntKind.u64 18), Operand.tmp 101, Operand.const (Value.int IntKind.u64 0)], argTypes := #[24, 22, 26, 22] }) 31 (some 26) (Op.alloc 26) 0 ⟨_, rfl, rfl, rfl, rfl, rfl⟩ ⟨_, rfl, rfl, rfl, rfl, rfl⟩ (by kernel_rfl) (fun K hK => ?_) (fun K hK => ?_)
      · skip
        unfold bareOp
        go_wp2_with (go_at_call 23; refine (erefresh_gen _ (by decide) (by decide) (by decide) (by decide) (by decide) (by decide) (by decide) refN).mono ?_; rintro e w43 ⟨rfl, hb43⟩)
        replace F_c := Lib.hid (F_c.out.keep hb43)
        replace F_s := Lib.hid (F_s.out.keep hb43)
        replace HBW := Lib.hid (HBW.out.trans (hb43.mono HBW.out.size))
        replace hS := F_c.out.s
        clear hb43
        refine hK.out _ _ (fun h => absurd (h.symm.trans (by kernel_rfl : _ = true)) (by decide)) ?_
        clear hK K
        try simp only [Act.put, List.setIfInBounds_toArray, List.set_cons_zero, List.set_cons_succ]
        refine wpAnyB_takeP (i := 3) (some 99) (Op.move (Operand.tmp 102)) 31 (v := ?_) ⟨_, rfl, rfl, rfl, rfl, rfl⟩ (by kernel_rfl) (by kernel_rfl) (by kernel_rfl) (by kernel_rfl) (fun _ _ _ h => h) (fun h => absurd (h.symm.trans (by kernel_rfl : _ = true)) (by decide)) (fun w' => ?_) ?_
        rotate_left
        · unfold bareOp
          go_simp
          try with_reducible rfl
        simp only [Act.put, List.setIfInBounds_toArray, List.set_cons_zero, List.set_cons_succ]
        refine wpAnyB_takeP (i := 4) (some 103) (Op.extract (Operand.tmp 99) 0) 26 (v := ?_) ⟨_, rfl, rfl, rfl, rfl, rfl⟩ (by kernel_rfl) (by kernel_rfl) (by kernel_rfl) (by kernel_rfl) (fun _ _ _ h => h) (fun h => absurd (h.symm.trans (by kernel_rfl : _ = true)) (by decide)) (fun w' => ?_) ?_
        rotate_left
        · unfold bareOp
          go_simp
          try with_reducible rfl
        simp only [Act.put, List.setIfInBounds_toArray, List.set_cons_zero, List.set_cons_succ]
        refine wpAnyB_takeP (i := 5) (some 104) (Op.extract (Operand.tmp 99) 1) 30 (v := ?_) ⟨_, rfl, rfl, rfl, rfl, rfl⟩ (by kernel_rfl) (by kernel_rfl) (by kernel_rfl) (by kernel_rfl) (fun _ _ _ h => h) (fun h => absurd (h.symm.trans (by kernel_rfl : _ = true)) (by decide)) (fun w' => ?_) ?_
        rotate_left
        · unfold bareOp
          go_simp
          try with_reducible rfl
        simp only [Act.put, List.setIfInBounds_toArray, List.set_cons_zero, List.set_cons_succ]
        refine wpAnyB_only (i := 6) (some 26) (Op.alloc 26) 0 ⟨_, rfl, rfl, rfl, rfl, rfl⟩ (by kernel_rfl) (fun K hK => ?_)
        unfold bareOp
        go_wp2_with fail
        refine hK.out _ _ (fun h => absurd (h.symm.trans (by kernel_rfl : _ = true)) (by decide)) ?_
        clear hK K
        try simp only [Act.put, List.setIfInBounds_toArray, List.set_cons_zero, List.set_cons_succ]
        refine wpAnyB_only (i := 7) none (Op.store 26 (Operand.tmp 26) (Operand.tmp 103)) 0 ⟨_, rfl, rfl, rfl, rfl, rfl⟩ (by kernel_rfl) (fun K hK => ?_)
        unfold bareOp
        go_wp2_with fail
        refine hK.out _ _ (fun h => absurd (h.symm.trans (by kernel_rfl : _ = true)) (by decide)) ?_
        clear hK K
        try simp only [Act.put, List.setIfInBounds_toArray, List.set_cons_zero, List.set_cons_succ]
        refine wpAnyB_takeP (i := 8) (some 27) (Op.assign (Operand.tmp 104)) 30 (v := ?_) ⟨_, rfl, rfl, rfl, rfl, rfl⟩ (by kernel_rfl) (by kernel_rfl) (by kernel_rfl) (by kernel_rfl) (fun _ _ _ h => h) (fun h => absurd (h.symm.trans (by kernel_rfl : _ = true)) (by decide)) (fun w' => ?_) ?_
        rotate_left
        · unfold bareOp
          go_simp
          try with_reducible rfl
        simp only [Act.put, List.setIfInBounds_toArray, List.set_cons_zero, List.set_cons_succ]
        refine wpAnyB_done (by kernel_rfl) ?_ _
        replace F_c := Lib.hid (F_c.out.alloc (.cells #[.int .u64 12, .int .u64 2] 26))
        replace F_s := Lib.hid (F_s.out.alloc (.cells #[.int .u64 12, .int .u64 2] 26))
        have F_r := Lib.hid (Pair.new w43 12 2 26)
        replace HBW := Lib.hid (HBW.out.alloc HBW.out.size (.cells #[.int .u64 12, .int .u64 2] 26))
        obtain ⟨x0a, x0b, x0c, x0d, -⟩ := id F_c.out
        obtain ⟨x1a, x1b, x1c, x1d, -⟩ := id F_s.out
        obtain ⟨x2a, x2b, x2c, x2d, -⟩ := id F_r.out
        go_wp2_with fail
        clear x0a x0b x0c x0d x1a x1b x1c x1d x2a x2b x2c x2d
        refine (alive_yes _).mono ?_
        rintro e w44 ⟨rfl, hb44⟩
        replace F_c := Lib.hid (F_c.out.keep hb44)
        replace F_s := Lib.hid (F_s.out.keep hb44)
        replace F_r := Lib.hid (F_r.out.keep hb44)
        replace HBW := Lib.hid (HBW.out.trans (hb44.mono HBW.out.size))
        clear hb44
        obtain ⟨x0a, x0b, x0c, x0d, -⟩ := id F_c.out
        obtain ⟨x1a, x1b, x1c, x1d, -⟩ := id F_s.out
        obtain ⟨x2a, x2b, x2c, x2d, -⟩ := id F_r.out
        go_wp2_with fail
        clear x0a x0b x0c x0d x1a x1b x1c x1d x2a x2b x2c x2d
        refine (is_yes 1 1 _).mono ?_
        rintro e w45 ⟨rfl, hb45⟩
        replace F_c := Lib.hid (F_c.out.keep hb45)
        replace F_s := Lib.hid (F_s.out.keep hb45)
        replace F_r := Lib.hid (F_r.out.keep hb45)
        replace HBW := Lib.hid (HBW.out.trans (hb45.mono HBW.out.size))
        clear hb45
        obtain ⟨x0a, x0b, x0c, x0d, -⟩ := id F_c.out
        obtain ⟨x1a, x1b, x1c, x1d, -⟩ := id F_s.out
        obtain ⟨x2a, x2b, x2c, x2d, -⟩ := id F_r.out
        go_wp2_with fail
        clear x0a x0b x0c x0d x1a x1b x1c x1d x2a x2b x2c x2d
        refine (is_yes 12 2 _).mono ?_
        rintro e w46 ⟨rfl, hb46⟩
        replace F_c := Lib.hid (F_c.out.keep hb46)
        replace F_s := Lib.hid (F_s.out.keep hb46)
        replace F_r := Lib.hid (F_r.out.keep hb46)
        replace HBW := Lib.hid (HBW.out.trans (hb46.mono HBW.out.size))
        clear hb46
        obtain ⟨x0a, x0b, x0c, x0d, -⟩ := id F_c.out
        obtain ⟨x1a, x1b, x1c, x1d, -⟩ := id F_s.out
        obtain ⟨x2a, x2b, x2c, x2d, -⟩ := id F_r.out
        go_wp2_with fail
        go_ret
        exact ⟨rfl, HBW.out⟩
      · skip
        unfold bareOp
        go_wp2_with fail
        have ltB : w.heap.size ≤ w42.heap.size := by have h := HBW.out.size; (try simp only [World.size_alloc, World.size_drew, World.size_setCell] at h); omega
        have ne_c : w42.heap.size ≠ w.heap.size := by have h := F_c.out.lt; (try simp only [World.size_alloc, World.size_drew, World.size_setCell] at h); omega
        replace F_c := Lib.hid (F_c.out.alloc (.cells #[.int .u64 0, .int .u64 0] 26))
        have ne_s : w42.heap.size ≠ w32.heap.size := by have h := F_s.out.lt; (try simp only [World.size_alloc, World.size_drew, World.size_setCell] at h); omega
        replace F_s := Lib.hid (F_s.out.alloc (.cells #[.int .u64 0, .int .u64 0] 26))
        have F_r := Lib.hid (Pair.at w42 0 0 26 (w42.heap.size) (by simp))
        replace HBW := Lib.hid (HBW.out.alloc HBW.out.size (.cells #[.int .u64 0, .int .u64 0] 26))
        replace hS := F_c.out.s
        refine hK.out _ _ (fun _ => hS) ?_
        clear hK K
        try simp only [Act.put, List.setIfInBounds_toArray, List.set_cons_zero, List.set_cons_succ]
        refine wpAnyB_only (i := 2) (some 102) (Op.call { callee := Callee.value (Operand.func 23), args := #[Operand.tmp 100, Operand.const (Value.int IntKind.u64 18), Operand.tmp 101, Operand.const (Value.int IntKind.u64 0)], argTypes := #[24, 22, 26, 22] }) 31 ⟨_, rfl, rfl, rfl, rfl, rfl⟩ (by kernel_rfl) (fun K hK => ?_)
        unfold bareOp
        go_wp2_with (go_at_call 23; refine (erefresh_gen _ (by decide) (by decide) (by decide) (by decide) (by decide) (by decide) (by decide) refN).mono ?_; rintro e w43 ⟨rfl, hb43⟩)
        replace F_c := Lib.hid (F_c.out.keep hb43)
        replace F_s := Lib.hid (F_s.out.keep hb43)
        replace F_r := Lib.hid (F_r.out.keep hb43)
        replace HBW := Lib.hid (HBW.out.trans (hb43.mono HBW.out.size))
        replace hS := F_c.out.s
        clear hb43
        refine hK.out _ _ (fun h => absurd (h.symm.trans (by kernel_rfl : _ = true)) (by decide)) ?_
        clear hK K
        try simp only [Act.put, List.setIfInBounds_toArray, List.set_cons_zero, List.set_cons_succ]
        refine wpAnyB_takeP (i := 3) (some 99) (Op.move (Operand.tmp 102)) 31 (v := ?_) ⟨_, rfl, rfl, rfl, rfl, rfl⟩ (by kernel_rfl) (by kernel_rfl) (by kernel_rfl) (by kernel_rfl) (fun _ _ _ h => h) (fun h => absurd (h.symm.trans (by kernel_rfl : _ = true)) (by decide)) (fun w' => ?_) ?_
        rotate_left
        · unfold bareOp
          go_simp
          try with_reducible rfl
        simp only [Act.put, List.setIfInBounds_toArray, List.set_cons_zero, List.set_cons_succ]
        refine wpAnyB_takeP (i := 4) (some 103) (Op.extract (Operand.tmp 99) 0) 26 (v := ?_) ⟨_, rfl, rfl, rfl, rfl, rfl⟩ (by kernel_rfl) (by kernel_rfl) (by kernel_rfl) (by kernel_rfl) (fun _ _ _ h => h) (fun h => absurd (h.symm.trans (by kernel_rfl : _ = true)) (by decide)) (fun w' => ?_) ?_
        rotate_left
        · unfold bareOp
          go_simp
          try with_reducible rfl
        simp only [Act.put, List.setIfInBounds_toArray, List.set_cons_zero, List.set_cons_succ]
        refine wpAnyB_takeP (i := 5) (some 104) (Op.extract (Operand.tmp 99) 1) 30 (v := ?_) ⟨_, rfl, rfl, rfl, rfl, rfl⟩ (by kernel_rfl) (by kernel_rfl) (by kernel_rfl) (by kernel_rfl) (fun _ _ _ h => h) (fun h => absurd (h.symm.trans (by kernel_rfl : _ = true)) (by decide)) (fun w' => ?_) ?_
        rotate_left
        · unfold bareOp
          go_simp
          try with_reducible rfl
        simp only [Act.put, List.setIfInBounds_toArray, List.set_cons_zero, List.set_cons_succ]
        refine wpAnyB_only (i := 7) none (Op.store 26 (Operand.tmp 26) (Operand.tmp 103)) 0 ⟨_, rfl, rfl, rfl, rfl, rfl⟩ (by kernel_rfl) (fun K hK => ?_)
        unfold bareOp
        obtain ⟨za, zb, zc, zd, -⟩ := id F_r.out
        go_wp2_with fail
        clear za zb zc zd
        refine hK.out _ _ (fun h => absurd (h.symm.trans (by kernel_rfl : _ = true)) (by decide)) ?_
        clear hK K
        try simp only [Act.put, List.setIfInBounds_toArray, List.set_cons_zero, List.set_cons_succ]
        refine wpAnyB_takeP (i := 8) (some 27) (Op.assign (Operand.tmp 104)) 30 (v := ?_) ⟨_, rfl, rfl, rfl, rfl, rfl⟩ (by kernel_rfl) (by kernel_rfl) (by kernel_rfl) (by kernel_rfl) (fun _ _ _ h => h) (fun h => absurd (h.symm.trans (by kernel_rfl : _ = true)) (by decide)) (fun w' => ?_) ?_
        rotate_left
        · unfold bareOp
          go_simp
          try with_reducible rfl
        simp only [Act.put, List.setIfInBounds_toArray, List.set_cons_zero, List.set_cons_succ]
        refine wpAnyB_done (by kernel_rfl) ?_ _
        replace F_r := Lib.hid (F_r.out.stored 12 2)
        replace F_c := Lib.hid ((F_c.out.far (o := 0) ne_c (.int .u64 12)).far (o := 1) ne_c (.int .u64 2))
        clear ne_c
        replace F_s := Lib.hid ((F_s.out.far (o := 0) ne_s (.int .u64 12)).far (o := 1) ne_s (.int .u64 2))
        clear ne_s
        replace HBW := Lib.hid ((HBW.out.setCell (p := ⟨w42.heap.size, 0, none⟩) ltB (.int .u64 12)).setCell (p := ⟨w42.heap.size, 1, none⟩) ltB (.int .u64 2))
        clear ltB
        obtain ⟨x0a, x0b, x0c, x0d, -⟩ := id F_c.out
        obtain ⟨x1a, x1b, x1c, x1d, -⟩ := id F_s.out
        obtain ⟨x2a, x2b, x2c, x2d, -⟩ := id F_r.out
        go_wp2_with fail
        clear x0a x0b x0c x0d x1a x1b x1c x1d x2a x2b x2c x2d
        refine (alive_yes _).mono ?_
        rintro e w44 ⟨rfl, hb44⟩
        replace F_c := Lib.hid (F_c.out.keep hb44)
        replace F_s := Lib.hid (F_s.out.keep hb44)
        replace F_r := Lib.hid (F_r.out.keep hb44)
        replace HBW := Lib.hid (HBW.out.trans (hb44.mono HBW.out.size))
        clear hb44
        obtain ⟨x0a, x0b, x0c, x0d, -⟩ := id F_c.out
        obtain ⟨x1a, x1b, x1c, x1d, -⟩ := id F_s.out
        obtain ⟨x2a, x2b, x2c, x2d, -⟩ := id F_r.out
        go_wp2_with fail
        clear x0a x0b x0c x0d x1a x1b x1c x1d x2a x2b x2c x2d
        refine (is_yes 1 1 _).mono ?_
        rintro e w45 ⟨rfl, hb45⟩
        replace F_c := Lib.hid (F_c.out.keep hb45)
        replace F_s := Lib.hid (F_s.out.keep hb45)
        replace F_r := Lib.hid (F_r.out.keep hb45)
        replace HBW := Lib.hid (HBW.out.trans (hb45.mono HBW.out.size))
        clear hb45
        obtain ⟨x0a, x0b, x0c, x0d, -⟩ := id F_c.out
        obtain ⟨x1a, x1b, x1c, x1d, -⟩ := id F_s.out
        obtain ⟨x2a, x2b, x2c, x2d, -⟩ := id F_r.out
        go_wp2_with fail
        clear x0a x0b x0c x0d x1a x1b x1c x1d x2a x2b x2c x2d
        refine (is_yes 12 2 _).mono ?_
        rintro e w46 ⟨rfl, hb46⟩
        replace F_c := Lib.hid (F_c.out.keep hb46)
        replace F_s := Lib.hid (F_s.out.keep hb46)
        replace F_r := Lib.hid (F_r.out.keep hb46)
        replace HBW := Lib.hid (HBW.out.trans (hb46.mono HBW.out.size))
        clear hb46
        obtain ⟨x0a, x0b, x0c, x0d, -⟩ := id F_c.out
        obtain ⟨x1a, x1b, x1c, x1d, -⟩ := id F_s.out
        obtain ⟨x2a, x2b, x2c, x2d, -⟩ := id F_r.out
        go_wp2_with fail
        go_ret
        exact ⟨rfl, HBW.out⟩
    · skip
      unfold bareOp
      go_wp2_with fail
      have ltB : w.heap.size ≤ w41.heap.size := by have h := HBW.out.size; (try simp only [World.size_alloc, World.size_drew, World.size_setCell] at h); omega
      have ne_c : w41.heap.size ≠ w.heap.size := by have h := F_c.out.lt; (try simp only [World.size_alloc, World.size_drew, World.size_setCell] at h); omega
      replace F_c := Lib.hid (F_c.out.alloc (.cells #[.int .u64 0, .int .u64 0] 26))
      have ne_s : w41.heap.size ≠ w32.heap.size := by have h := F_s.out.lt; (try simp only [World.size_alloc, World.size_drew, World.size_setCell] at h); omega
      replace F_s := Lib.hid (F_s.out.alloc (.cells #[.int .u64 0, .int .u64 0] 26))
      have F_r := Lib.hid (Pair.at w41.drew 0 0 26 (w41.heap.size) (by simp))
      replace HBW := Lib.hid (HBW.out.alloc HBW.out.size (.cells #[.int .u64 0, .int .u64 0] 26))
      replace hS := F_c.out.s
      refine hK.out _ _ (fun _ => hS) ?_
      clear hK K
      try simp only [Act.put, List.setIfInBounds_toArray, List.set_cons_zero, List.set_cons_succ]
      refine wpAnyB_only (i := 0) (some 100) (Op.call { callee := Callee.value (Operand.func 33), args := #[], argTypes := #[] }) 24 ⟨_, rfl, rfl, rfl, rfl, rfl⟩ (by kernel_rfl) (fun K hK => ?_)
      unfold bareOp
      go_wp2_with (go_at_call 33; refine (small_any _).mono ?_; rintro e w42 ⟨rfl, hb42⟩)
      replace F_c := Lib.hid (F_c.out.keep hb42)
      replace F_s := Lib.hid (F_s.out.keep hb42)
      replace F_r := Lib.hid (F_r.out.keep hb42)
      replace HBW := Lib.hid (HBW.out.trans (hb42.mono HBW.out.size))
      replace hS := F_c.out.s
      clear hb42
      refine hK.out _ _ (fun _ => hS) ?_
      clear hK K
      try simp only [Act.put, List.setIfInBounds_toArray, List.set_cons_zero, List.set_cons_succ]
      refine wpAnyB_only (i := 2) (some 102) (Op.call { callee := Callee.value (Operand.func 23), args := #[Operand.tmp 100, Operand.const (Value.int IntKind.u64 18), Operand.tmp 101, Operand.const (Value.int IntKind.u64 0)], argTypes := #[24, 22, 26, 22] }) 31 ⟨_, rfl, rfl, rfl, rfl, rfl⟩ (by kernel_rfl) (fun K hK => ?_)
      unfold bareOp
      go_wp2_with (go_at_call 23; refine (erefresh_gen _ (by decide) (by decide) (by decide) (by decide) (by decide) (by decide) (by decide) refN).mono ?_; rintro e w43 ⟨rfl, hb43⟩)
      replace F_c := Lib.hid (F_c.out.keep hb43)
      replace F_s := Lib.hid (F_s.out.keep hb43)
      replace F_r := Lib.hid (F_r.out.keep hb43)
      replace HBW := Lib.hid (HBW.out.trans (hb43.mono HBW.out.size))
      replace hS := F_c.out.s
      clear hb43
      refine hK.out _ _ (fun h => absurd (h.symm.trans (by kernel_rfl : _ = true)) (by decide)) ?_
      clear hK K
      try simp only [Act.put, List.setIfInBounds_toArray, List.set_cons_zero, List.set_cons_succ]
      refine wpAnyB_takeP (i := 3) (some 99) (Op.move (Operand.tmp 102)) 31 (v := ?_) ⟨_, rfl, rfl, rfl, rfl, rfl⟩ (by kernel_rfl) (by kernel_rfl) (by kernel_rfl) (by kernel_rfl) (fun _ _ _ h => h) (fun h => absurd (h.symm.trans (by kernel_rfl : _ = true)) (by decide)) (fun w' => ?_) ?_
      rotate_left
      · unfold bareOp
        go_simp
        try with_reducible rfl
      simp only [Act.put, List.setIfInBounds_toArray, List.set_cons_zero, List.set_cons_succ]
      refine wpAnyB_takeP (i := 4) (some 103) (Op.extract (Operand.tmp 99) 0) 26 (v := ?_) ⟨_, rfl, rfl, rfl, rfl, rfl⟩ (by kernel_rfl) (by kernel_rfl) (by kernel_rfl) (by kernel_rfl) (fun _ _ _ h => h) (fun h => absurd (h.symm.trans (by kernel_rfl : _ = true)) (by decide)) (fun w' => ?_) ?_
      rotate_left
      · unfold bareOp
        go_simp
        try with_reducible rfl
      simp only [Act.put, List.setIfInBounds_toArray, List.set_cons_zero, List.set_cons_succ]
      refine wpAnyB_takeP (i := 5) (some 104) (Op.extract (Operand.tmp 99) 1) 30 (v := ?_) ⟨_, rfl, rfl, rfl, rfl, rfl⟩ (by kernel_rfl) (by kernel_rfl) (by kernel_rfl) (by kernel_rfl) (fun _ _ _ h => h) (fun h => absurd (h.symm.trans (by kernel_rfl : _ = true)) (by decide)) (fun w' => ?_) ?_
      rotate_left
      · unfold bareOp
        go_simp
        try with_reducible rfl
      simp only [Act.put, List.setIfInBounds_toArray, List.set_cons_zero, List.set_cons_succ]
      refine wpAnyB_only (i := 7) none (Op.store 26 (Operand.tmp 26) (Operand.tmp 103)) 0 ⟨_, rfl, rfl, rfl, rfl, rfl⟩ (by kernel_rfl) (fun K hK => ?_)
      unfold bareOp
      obtain ⟨za, zb, zc, zd, -⟩ := id F_r.out
      go_wp2_with fail
      clear za zb zc zd
      refine hK.out _ _ (fun h => absurd (h.symm.trans (by kernel_rfl : _ = true)) (by decide)) ?_
      clear hK K
      try simp only [Act.put, List.setIfInBounds_toArray, List.set_cons_zero, List.set_cons_succ]
      refine wpAnyB_takeP (i := 8) (some 27) (Op.assign (Operand.tmp 104)) 30 (v := ?_) ⟨_, rfl, rfl, rfl, rfl, rfl⟩ (by kernel_rfl) (by kernel_rfl) (by kernel_rfl) (by kernel_rfl) (fun _ _ _ h => h) (fun h => absurd (h.symm.trans (by kernel_rfl : _ = true)) (by decide)) (fun w' => ?_) ?_
      rotate_left
      · unfold bareOp
        go_simp
        try with_reducible rfl
      simp only [Act.put, List.setIfInBounds_toArray, List.set_cons_zero, List.set_cons_succ]
      refine wpAnyB_done (by kernel_rfl) ?_ _
      replace F_r := Lib.hid (F_r.out.stored 12 2)
      replace F_c := Lib.hid ((F_c.out.far (o := 0) ne_c (.int .u64 12)).far (o := 1) ne_c (.int .u64 2))
      clear ne_c
      replace F_s := Lib.hid ((F_s.out.far (o := 0) ne_s (.int .u64 12)).far (o := 1) ne_s (.int .u64 2))
      clear ne_s
      replace HBW := Lib.hid ((HBW.out.setCell (p := ⟨w41.heap.size, 0, none⟩) ltB (.int .u64 12)).setCell (p := ⟨w41.heap.size, 1, none⟩) ltB (.int .u64 2))
      clear ltB
      obtain ⟨x0a, x0b, x0c, x0d, -⟩ := id F_c.out
      obtain ⟨x1a, x1b, x1c, x1d, -⟩ := id F_s.out
      obtain ⟨x2a, x2b, x2c, x2d, -⟩ := id F_r.out
      go_wp2_with fail
      clear x0a x0b x0c x0d x1a x1b x1c x1d x2a x2b x2c x2d
      refine (alive_yes _).mono ?_
      rintro e w44 ⟨rfl, hb44⟩
      replace F_c := Lib.hid (F_c.out.keep hb44)
      replace F_s := Lib.hid (F_s.out.keep hb44)
      replace F_r := Lib.hid (F_r.out.keep hb44)
      replace HBW := Lib.hid (HBW.out.trans (hb44.mono HBW.out.size))
      clear hb44
      obtain ⟨x0a, x0b, x0c, x0d, -⟩ := id F_c.out
      obtain ⟨x1a, x1b, x1c, x1d, -⟩ := id F_s.out
      obtain ⟨x2a, x2b, x2c, x2d, -⟩ := id F_r.out
      go_wp2_with fail
      clear x0a x0b x0c x0d x1a x1b x1c x1d x2a x2b x2c x2d
      refine (is_yes 1 1 _).mono ?_
      rintro e w45 ⟨rfl, hb45⟩
      replace F_c := Lib.hid (F_c.out.keep hb45)
      replace F_s := Lib.hid (F_s.out.keep hb45)
      replace F_r := Lib.hid (F_r.out.keep hb45)
      replace HBW := Lib.hid (HBW.out.trans (hb45.mono HBW.out.size))
      clear hb45
      obtain ⟨x0a, x0b, x0c, x0d, -⟩ := id F_c.out
      obtain ⟨x1a, x1b, x1c, x1d, -⟩ := id F_s.out
      obtain ⟨x2a, x2b, x2c, x2d, -⟩ := id F_r.out
      go_wp2_with fail
      clear x0a x0b x0c x0d x1a x1b x1c x1d x2a x2b x2c x2d
      refine (is_yes 12 2 _).mono ?_
      rintro e w46 ⟨rfl, hb46⟩
      replace F_c := Lib.hid (F_c.out.keep hb46)
      replace F_s := Lib.hid (F_s.out.keep hb46)
      replace F_r := Lib.hid (F_r.out.keep hb46)
      replace HBW := Lib.hid (HBW.out.trans (hb46.mono HBW.out.size))
      clear hb46
      obtain ⟨x0a, x0b, x0c, x0d, -⟩ := id F_c.out
      obtain ⟨x1a, x1b, x1c, x1d, -⟩ := id F_s.out
      obtain ⟨x2a, x2b, x2c, x2d, -⟩ := id F_r.out
      go_wp2_with fail
      go_ret
      exact ⟨rfl, HBW.out⟩


set_option maxRecDepth 100000 in
theorem lifted (os : Os) (started : os.Started) (H : Type) (enc : TypeId × Value → H) :
    ReturnsInHanded {} Try.checked os 9 .any (Rows.elgamalNamesSpec.pre6 enc Try.prog Try.f9 Rows.elgamalNamesRow.domain false) (Rows.elgamalNamesSpec.post enc Try.prog Try.f9 false true false false) := by
  refine returnsInHanded_of_change (C := Try.checked) own started (by kernel_rfl) Try.func9
    (ChangeSpec.witness6 (enc := enc) (C := Try.checked) false ⟨#[], #[], []⟩ 8 (by kernel_rfl) (by kernel_rfl) (by kernel_rfl) (by kernel_rfl)) ?_
  intro W base args ds gs before hval0 hW _ _
  have hval : ∀ (j : Nat) t v, Try.f9.params[j]? = some t → args[j]? = some v → Value.okWide Try.prog W .any base t v := hval0
  have hW' := hW
  obtain ⟨p, q, hA0, hV, rfl, hfz, hnd⟩ := hW
  have hA : DataW.TrodAll enc Try.prog W 0 (fun _ => true) true Try.f9.params.toList args.toList ds p := hA0
  rw [Try.params9] at hA hval
  have hK := hA
  obtain ⟨hargs, rfl, rfl⟩ := trodAll_nil hA
  obtain rfl : args = #[] := by cases args; simp_all
  obtain ⟨rfl, rfl⟩ := trodVars_none hV
  clear hA0 hval0
  refine (walk  W ).mono fun e W' ⟨he, bel⟩ => ?_
  subst he
  exact ⟨_, rfl, _, _, _, [], _, [], hW', trodAll_mk1 (shut_bool Try.underlying4 _), trodAll_stays laidOut (by kernel_rfl) hK bel, rfl, bel.frame _, fun h => by cases h⟩

theorem over : Rows.elgamalNamesRow.holds Try.pinned (OpenSpec.ofChange Rows.elgamalNamesSpec) :=
  OpenClaim.holds_of_wide 9 Try.f9 rfl rfl rfl rfl rfl rfl rfl ⟨rfl, rfl, rfl, rfl, rfl⟩ rfl rfl rfl rfl rfl (by kernel_rfl) Try.func9 (by kernel_rfl)
    (of_decide_eq_true (by kernel_rfl)) (by unfold Func.isWrapper; first | (rw [if_pos (by decide +kernel)]; kernel_rfl) | (rw [if_neg (by decide +kernel)]; exact ⟨rfl, rfl⟩))
    (fun os started H enc _ => lifted os started H enc)

theorem proved : Rows.ElgamalNamesSaid := over
#print axioms proved
end Go.Proofs.Ytffefhldfnfohaa.lawNames
