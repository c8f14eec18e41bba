/- ProofNames: the statement: for every input the law returns true, and the arguments read as before. -/
import Derived.Test.YtmcpfinnhgbcpaaDoorCardP
import Derived.Test.YtmcpfinnhgbcpaaDoorAux33
import Derived.Test.YtmcpfinnhgbcpaaDoorBitC
import Derived.Test.YtmcpfinnhgbcpaaDoorEqB
import Derived.Test.YtmcpfinnhgbcpaaDoorEqC
import Derived.Test.YtmcpfinnhgbcpaaDoorPrime
import Derived.Lib.SlBytesConst
import Derived.Laws.MakeOwn
import Derived.Laws.OwnMore
import Derived.OwnWalk
import Derived.Deep.Cut
namespace Go.Proofs.YtmcpfinnhgbcpaaDoor.lawNames
open Go Sha Go.ChangeShapes Go.WideShapes Go.ChangeAt Go.RowKit Num
set_option linter.unusedSimpArgs false
set_option linter.unusedVariables false

theorem made_bytes (m : Nat) (hm : m ≤ 9000) : ∃ o : Obj, (∀ w : World, (Instr.makeSlice 27 (.int .i64 m) (.int .i64 m)).run Tryd.prog w = .ok (.slice (some ⟨w.heap.size, 0, none⟩) m m) (w.alloc o)) ∧ ∀ w : World, ShI .u8 (w.alloc o) (some ⟨w.heap.size, 0, none⟩) m (List.replicate m 0) := by
  obtain ⟨i0, hi, hz0, hz1, hz2⟩ := info_parts (P := Tryd.prog) (e := 5) (z := .int .u8 0) (size := 1) (bytes := 1) (by kernel_rfl)
  refine ⟨.cells (madeCells #[.int .u8 0] m) 5, fun w => ?_, fun w => ?_⟩
  · have h := run_make (P := Tryd.prog) w 27 5 i0 (.int .u8 0) Tryd.underlying27 hi hz0 .i64 .i64 m m (by omega) (by omega) (by rw [hz2]; omega) (by omega)
    rw [h, hz1]
    simp
    rfl
  · refine .inr ⟨w.heap.size, 0, rfl, by simp, by simp, fun i hi => ?_⟩
    have hi' : i < m := by simpa using hi
    rw [Nat.zero_add, World.cell?_alloc_new]
    rw [← Array.getElem?_toList, toList_madeCells_one]
    simp [List.getD_eq_getElem?_getD, hi']
theorem byte_zeros (m : Nat) : ByteL (List.replicate m 0) := fun x hx => by
  rw [List.eq_of_mem_replicate hx]; omega
theorem txt_nil {w : World} (h : Tabs w) : Txt w none 0 [] := ⟨h, ShI.nil _ _ _, fun x hx => by cases hx⟩
theorem not_has0 : ¬ Has 0 0 0 := by unfold Has; omega
theorem eqN (es ns : List Int) (T : List Int) (n : Nat) (a b z : Int) (h : askS 23 11 4 es ns = 2) : RetE (lgS (askS 23 11 4 es ns) n) a b z 0 0 0 2 := by
  have h2 : lgS (askS 23 11 4 es ns) n = 2 := by rw [lgS_ne (by rw [h]; decide), h]
  exact .inr ⟨by rw [h2]; decide, rfl, rfl, rfl, h2.symm⟩
theorem bitN0 : RetB (askS 23 11 4 [0, 0, 0, 0, 0] [18, 12, 2, 1, 1, 1, 4]) ((powm 4 0 23 = 1 * powm 12 0 23 % 23 ∧ powm 18 0 23 = 1 * powm 2 0 23 % 23) ∧ (powm 4 0 23 = 1 * powm 12 0 23 % 23 ∧ powm 18 0 23 = 4 * powm 12 0 23 % 23) ∧ (0 + 0) % 11 = (0 : Int)) false 0 := by
  have h1 : powm 4 0 23 = 1 := powm_nat 4 0 23 1 (by decide)
  have h2 : powm 12 0 23 = 1 := powm_nat 12 0 23 1 (by decide)
  have h3 : powm 18 0 23 = 1 := powm_nat 18 0 23 1 (by decide)
  have h4 : powm 2 0 23 = 1 := powm_nat 2 0 23 1 (by decide)
  exact .inl ⟨askS_ok has_small (by simp) (by simp), by rw [h1, h2, h3, h4]; decide, rfl⟩
theorem bpN {bm : Int} (T : List Int) (n : Nat) (h0 : bm ≠ 0) (h1 : bm ≠ 1) : RetBit (lgS (bitChk 23 11 4 18 bm 1 1 1 1) n) 23 11 4 18 bm 1 1 1 1 T 0 0 0 0 0 0 0 0 2 := by
  have h : bitChk 23 11 4 18 bm 1 1 1 1 = 2 := by rw [bitChk, if_pos (askS_ok has_small (by simp) (by simp)), if_neg (by omega)]
  have h2 : lgS (bitChk 23 11 4 18 bm 1 1 1 1) n = 2 := by rw [lgS_ne (by rw [h]; decide), h]
  exact .inr ⟨by rw [h2]; decide, ⟨rfl, rfl, rfl, rfl, rfl, rfl, rfl, rfl⟩, h2.symm⟩
theorem bpLong (T : List Int) : RetBit (lgS (bitChk 23 11 4 18 1 1 1 1 1) 8001) 23 11 4 18 1 1 1 1 1 T 0 0 0 0 0 0 0 0 4 := by
  have h : bitChk 23 11 4 18 1 1 1 1 1 = 0 := by rw [bitChk, if_pos (askS_ok has_small (by simp) (by simp)), if_pos (by simp)]
  have h2 : lgS (bitChk 23 11 4 18 1 1 1 1 1) 8001 = 4 := lgS_four h (by omega)
  exact .inr ⟨by rw [h2]; decide, ⟨rfl, rfl, rfl, rfl, rfl, rfl, rfl, rfl⟩, h2.symm⟩
theorem evNone (T : List Int) : RetB (lgS (askS 0 0 0 [0] [0, 0, 0, 0, 0]) 8001) (evP 0 0 0 0 0 0 0 0 0 T) false 300 := by
  have h : askS 0 0 0 [0] [0, 0, 0, 0, 0] = 300 := askS_no not_has0
  have h2 : lgS (askS 0 0 0 [0] [0, 0, 0, 0, 0]) 8001 = 300 := by rw [lgS_ne (by rw [h]; decide), h]
  exact .inr ⟨by rw [h2]; decide, rfl, h2.symm⟩
theorem evZero : RetB (lgS (askS 23 11 4 [0] [0, 2, 0, 0, 0]) 0) (evP 23 11 4 0 2 0 0 0 0 []) false 0 :=
  .inl ⟨lgS_ok (askS_ok has_small (by simp) (by simp)) (by omega), ⟨fun h => (by cases h), fun h => absurd (h.1 0 (by simp)).1 (by decide)⟩, rfl⟩
theorem bvN : RetB (lgS (askS 23 11 4 [0, 11, 0, 0] [18, 0, 0, 0, 0, 0, 0]) 0) (bvP 23 11 4 18 0 0 0 0 0 0 0 11 0 0 []) false 2 := by
  have h : askS 23 11 4 [0, 11, 0, 0] [18, 0, 0, 0, 0, 0, 0] = 2 := askS_e has_small (by decide)
  have h2 : lgS (askS 23 11 4 [0, 11, 0, 0] [18, 0, 0, 0, 0, 0, 0]) 0 = 2 := by rw [lgS_ne (by rw [h]; decide), h]
  exact .inr ⟨by rw [h2]; decide, rfl, h2.symm⟩
/-- The chapter's proof. -/
theorem eqYes : ∃ Z, RetE (lgS (askS 23 11 4 [3, 5] [2]) 0) (powm 4 5 23) (powm 2 5 23) (eqZ 23 11 4 2 3 5 []) 12 9 Z 0 ∧ RetB (lgS (askS 23 11 4 [Z] [18, 2, 8, 12, 9]) 0) (evP 23 11 4 18 2 8 12 9 Z []) true 0 ∧ 0 ≤ Z := by
  have g : Grp 23 11 4 := valid_small.grp
  have a1 : powm 4 5 23 = 12 := powm_nat 4 5 23 12 (by decide)
  have a2 : powm 2 5 23 = 9 := powm_nat 2 5 23 9 (by decide)
  have a3 : powm 4 3 23 = 18 := powm_nat 4 3 23 18 (by decide)
  have a4 : powm 2 3 23 = 8 := powm_nat 2 3 23 8 (by decide)
  have m2 : Mem 23 11 2 := ⟨by decide, by decide, powm_nat 2 11 23 1 (by decide)⟩
  have m18 : Mem 23 11 18 := ⟨by decide, by decide, powm_nat 18 11 23 1 (by decide)⟩
  have m8 : Mem 23 11 8 := ⟨by decide, by decide, powm_nat 8 11 23 1 (by decide)⟩
  have m12 : Mem 23 11 12 := ⟨by decide, by decide, powm_nat 12 11 23 1 (by decide)⟩
  have m9 : Mem 23 11 9 := ⟨by decide, by decide, powm_nat 9 11 23 1 (by decide)⟩
  obtain ⟨h, hh⟩ : ∃ h, chV 11 [18, 2, 8, 12, 9] [] = h := ⟨_, rfl⟩
  obtain ⟨h0, hQ⟩ : 0 ≤ h ∧ h < 11 := by rw [← hh]; exact chV_range (by omega) _ _
  obtain ⟨Z, hZ⟩ : ∃ Z, (5 + h * 3 % 11) % 11 = Z := ⟨_, rfl⟩
  have Z0 : 0 ≤ Z := by omega
  have ZQ : Z < 11 := by omega
  refine ⟨Z, .inl ⟨lgS_ok (askS_ok has_small (by simp) (by simp)) (by omega), a1.symm, a2.symm, by rw [eqZ, a1, a2, a3, a4, hh, hZ], rfl⟩, .inl ⟨lgS_ok (askS_ok has_small (by simpa using ZQ) (by simp)) (by omega), ⟨fun _ => ⟨?_, ?_, ?_⟩, fun _ => rfl⟩, rfl⟩, Z0⟩
  · intro z hz
    simp at hz
    rcases hz with rfl | rfl | rfl | rfl | rfl <;> assumption
  · rw [hh, ← a1, ← a3]
    exact resp_of' g g.mem_g (by decide) (by decide) h0 hZ
  · rw [hh, ← a2, ← a4]
    exact resp_of' g m2 (by decide) (by decide) h0 hZ
set_option maxRecDepth 100000 in
set_option maxHeartbeats 6400000 in
theorem walk (w : World) (hT : Tabs w) :
    Calls Tryd.prog 8 #[] w fun e w' => e = .returned (.bool true) ∧ Below w.heap.size w w' := by
  have HT := Lib.hid hT
  clear hT
  obtain ⟨ZZ, he1, he2, ZZ0⟩ := eqYes
  have HE1 := Lib.hid he1
  have HE2 := Lib.hid he2
  clear he1 he2
  obtain ⟨BIG1, hmk1, hbig1⟩ := made_bytes 8001 (by decide)
  have HZ1 := Lib.hid (byte_zeros 8001)
  generalize List.replicate 8001 (0 : Int) = Z1 at hbig1 HZ1
  simp only [Int.cast_ofNat_Int] at hmk1
  have HBW := Lib.hid (show Below w.heap.size w w from Below.refl _ _)
  go_enter Tryd.func8, Tryd.ntmps8
  go_wp2_with fail
  have F_on := Lib.hid (show Arr .u64 (w.alloc (.cells #[.int .u64 1, .int .u64 1, .int .u64 1, .int .u64 4, .int .u64 0, .int .u64 0, .int .u64 0, .int .u64 0] 54)) (w.heap.size) [1, 1, 1, 4, 0, 0, 0, 0] from Arr.new .u64 w [1, 1, 1, 4, 0, 0, 0, 0] _ _ rfl)
  replace HBW := Lib.hid (HBW.out.alloc HBW.out.size (.cells #[.int .u64 1, .int .u64 1, .int .u64 1, .int .u64 4, .int .u64 0, .int .u64 0, .int .u64 0, .int .u64 0] 54))
  skip
  replace F_on := Lib.hid F_on.out.drew
  replace HBW := Lib.hid HBW.out.drew
  have hS := F_on.out.s8
  refine wp_region_stage 3 (fun w' => S8 w' w.heap.size 1 1 1 4 0 0 0 0) (by kernel_rfl) ?_
  refine wpAnyB_takeP (i := 1) (some 29) (Op.build 51 #[(0, Operand.const (Value.int IntKind.u64 12)), (1, Operand.const (Value.int IntKind.u64 2))]) 51 (v := ?_) ⟨_, rfl, rfl, rfl, rfl, rfl⟩ (by kernel_rfl) (by kernel_rfl) (by kernel_rfl) (by kernel_rfl) (fun _ _ _ h => h) (fun _ => hS) (fun w' => ?_) ?_
  rotate_left
  · unfold bareOp
    go_simp
    try with_reducible rfl
  simp only [Act.put, List.setIfInBounds_toArray, List.set_cons_zero, List.set_cons_succ]
  refine wpAnyB_take (i := 2) (some 30) (Op.load 54 (Operand.tmp 1)) 54 (v := ?_) ⟨_, rfl, rfl, rfl, rfl, rfl⟩ (by kernel_rfl) (by kernel_rfl) (by kernel_rfl) [3] (by kernel_rfl) (fun _ _ _ h => h) hS (fun w' hSw => ?_) ?_
  rotate_left
  · obtain ⟨s0, s1, s2, s3, s4, s5, s6, s7⟩ := hSw
    unfold bareOp
    go_simp
    try with_reducible rfl
  simp only [Act.put, List.setIfInBounds_toArray, List.set_cons_zero, List.set_cons_succ]
  refine wpAnyB_only (i := 0) (some 28) (Op.call { callee := Callee.value (Operand.func 28), args := #[], argTypes := #[] }) 24 ⟨_, rfl, rfl, rfl, rfl, rfl⟩ (by kernel_rfl) (fun K hK => ?_)
  unfold bareOp
  go_wp2_with (go_at_call 28; refine (small_any _).mono ?_; rintro e w1 ⟨rfl, hb1⟩)
  replace F_on := Lib.hid (F_on.out.keep hb1)
  replace HBW := Lib.hid (HBW.out.trans (hb1.mono HBW.out.size))
  replace hS := F_on.out.s8
  clear hb1
  refine hK.out _ _ (fun _ => hS) ?_
  clear hK K
  try simp only [Act.put, List.setIfInBounds_toArray, List.set_cons_zero, List.set_cons_succ]
  refine wpAnyB_only (i := 3) (some 31) (Op.call { callee := Callee.value (Operand.func 23), args := #[Operand.tmp 28, Operand.const (Value.int IntKind.u64 18), Operand.tmp 29, Operand.tmp 30, Operand.const (Value.int IntKind.u64 0)], argTypes := #[24, 22, 51, 54, 22] }) 34 ⟨_, rfl, rfl, rfl, rfl, rfl⟩ (by kernel_rfl) (fun K hK => ?_)
  unfold bareOp
  go_wp2_with (go_at_call 23; refine (bitHolds_any (v := false) (e' := 0) _ (by decide) (by decide) (by decide) (by decide) (by decide) (by decide) (by decide) (by decide) (by decide) (by decide) (by decide) (by decide) (by decide) (by decide) (by decide) (nn := 10) (by decide) pp1 rfl bitN0).mono ?_; rintro e w2 ⟨rfl, hb2⟩)
  replace F_on := Lib.hid (F_on.out.keep hb2)
  replace HBW := Lib.hid (HBW.out.trans (hb2.mono HBW.out.size))
  replace hS := F_on.out.s8
  clear hb2
  refine hK.out _ _ (fun h => absurd (h.symm.trans (by kernel_rfl : _ = true)) (by decide)) ?_
  clear hK K
  try simp only [Act.put, List.setIfInBounds_toArray, List.set_cons_zero, List.set_cons_succ]
  refine wpAnyB_takeP (i := 4) (some 27) (Op.move (Operand.tmp 31)) 34 (v := ?_) ⟨_, rfl, rfl, rfl, rfl, rfl⟩ (by kernel_rfl) (by kernel_rfl) (by kernel_rfl) (by kernel_rfl) (fun _ _ _ h => h) (fun h => absurd (h.symm.trans (by kernel_rfl : _ = true)) (by decide)) (fun w' => ?_) ?_
  rotate_left
  · unfold bareOp
    go_simp
    try with_reducible rfl
  simp only [Act.put, List.setIfInBounds_toArray, List.set_cons_zero, List.set_cons_succ]
  refine wpAnyB_takeP (i := 5) (some 32) (Op.extract (Operand.tmp 27) 0) 4 (v := ?_) ⟨_, rfl, rfl, rfl, rfl, rfl⟩ (by kernel_rfl) (by kernel_rfl) (by kernel_rfl) (by kernel_rfl) (fun _ _ _ h => h) (fun h => absurd (h.symm.trans (by kernel_rfl : _ = true)) (by decide)) (fun w' => ?_) ?_
  rotate_left
  · unfold bareOp
    go_simp
    try with_reducible rfl
  simp only [Act.put, List.setIfInBounds_toArray, List.set_cons_zero, List.set_cons_succ]
  refine wpAnyB_takeP (i := 6) (some 33) (Op.extract (Operand.tmp 27) 1) 29 (v := ?_) ⟨_, rfl, rfl, rfl, rfl, rfl⟩ (by kernel_rfl) (by kernel_rfl) (by kernel_rfl) (by kernel_rfl) (fun _ _ _ h => h) (fun h => absurd (h.symm.trans (by kernel_rfl : _ = true)) (by decide)) (fun w' => ?_) ?_
  rotate_left
  · unfold bareOp
    go_simp
    try with_reducible rfl
  simp only [Act.put, List.setIfInBounds_toArray, List.set_cons_zero, List.set_cons_succ]
  refine wpAnyB_takeP (i := 7) (some 2) (Op.assign (Operand.tmp 32)) 4 (v := ?_) ⟨_, rfl, rfl, rfl, rfl, rfl⟩ (by kernel_rfl) (by kernel_rfl) (by kernel_rfl) (by kernel_rfl) (fun _ _ _ h => h) (fun h => absurd (h.symm.trans (by kernel_rfl : _ = true)) (by decide)) (fun w' => ?_) ?_
  rotate_left
  · unfold bareOp
    go_simp
    try with_reducible rfl
  simp only [Act.put, List.setIfInBounds_toArray, List.set_cons_zero, List.set_cons_succ]
  refine wpAnyB_takeP (i := 8) (some 3) (Op.assign (Operand.tmp 33)) 29 (v := ?_) ⟨_, rfl, rfl, rfl, rfl, rfl⟩ (by kernel_rfl) (by kernel_rfl) (by kernel_rfl) (by kernel_rfl) (fun _ _ _ h => h) (fun h => absurd (h.symm.trans (by kernel_rfl : _ = true)) (by decide)) (fun w' => ?_) ?_
  rotate_left
  · unfold bareOp
    go_simp
    try with_reducible rfl
  simp only [Act.put, List.setIfInBounds_toArray, List.set_cons_zero, List.set_cons_succ]
  refine wpAnyB_done (by kernel_rfl) ?_ _
  clear hS F_on
  go_wp2_with fail
  refine (small_any _).mono ?_
  rintro e w3 ⟨rfl, hb3⟩
  replace HBW := Lib.hid (HBW.out.trans (hb3.mono HBW.out.size))
  clear hb3
  go_wp2_with fail
  refine (peqProve_any _ (txt_nil (HT.out.below HBW.out)) (by decide) (by decide) (by decide) (by decide) (by decide) (by decide) (by decide) (eqN [1, 1] [23] [] 0 _ _ _ (askS_n has_small (by decide)))).mono ?_
  rintro e w4 ⟨rfl, hb4⟩
  replace HBW := Lib.hid (HBW.out.trans (hb4.mono HBW.out.size))
  clear hb4
  go_wp2_with fail
  have F_y1 := Lib.hid (show Arr .u64 (w4.alloc (.cells #[.int .u64 0, .int .u64 0, .int .u64 0] 26)) (w4.heap.size) [0, 0, 0] from Arr.new .u64 w4 [0, 0, 0] _ _ rfl)
  replace HBW := Lib.hid (HBW.out.alloc HBW.out.size (.cells #[.int .u64 0, .int .u64 0, .int .u64 0] 26))
  clear F_y1
  refine (small_any _).mono ?_
  rintro e w5 ⟨rfl, hb5⟩
  replace HBW := Lib.hid (HBW.out.trans (hb5.mono HBW.out.size))
  clear hb5
  go_wp2_with fail
  refine (peqProve_any _ (txt_nil (HT.out.below HBW.out)) (by decide) (by decide) (by decide) (by decide) (by decide) (by decide) (by decide) (eqN [11, 1] [2] [] 0 _ _ _ (askS_e has_small (by decide)))).mono ?_
  rintro e w6 ⟨rfl, hb6⟩
  replace HBW := Lib.hid (HBW.out.trans (hb6.mono HBW.out.size))
  clear hb6
  go_wp2_with fail
  have F_y2 := Lib.hid (show Arr .u64 (w6.alloc (.cells #[.int .u64 0, .int .u64 0, .int .u64 0] 26)) (w6.heap.size) [0, 0, 0] from Arr.new .u64 w6 [0, 0, 0] _ _ rfl)
  replace HBW := Lib.hid (HBW.out.alloc HBW.out.size (.cells #[.int .u64 0, .int .u64 0, .int .u64 0] 26))
  clear F_y2
  refine (small_any _).mono ?_
  rintro e w7 ⟨rfl, hb7⟩
  replace HBW := Lib.hid (HBW.out.trans (hb7.mono HBW.out.size))
  clear hb7
  go_wp2_with fail
  refine (pbitProve_any _ (txt_nil (HT.out.below HBW.out)) (by decide) (by decide) (by decide) (by decide) (by decide) (by decide) (by decide) (by decide) (by decide) (bpN [] 0 (by decide) (by decide))).mono ?_
  rintro e w8 ⟨rfl, hb8⟩
  replace HBW := Lib.hid (HBW.out.trans (hb8.mono HBW.out.size))
  clear hb8
  go_wp2_with fail
  have F_y3 := Lib.hid (show Arr .u64 (w8.alloc (.cells #[.int .u64 0, .int .u64 0, .int .u64 0, .int .u64 0, .int .u64 0, .int .u64 0, .int .u64 0, .int .u64 0] 54)) (w8.heap.size) [0, 0, 0, 0, 0, 0, 0, 0] from Arr.new .u64 w8 [0, 0, 0, 0, 0, 0, 0, 0] _ _ rfl)
  replace HBW := Lib.hid (HBW.out.alloc HBW.out.size (.cells #[.int .u64 0, .int .u64 0, .int .u64 0, .int .u64 0, .int .u64 0, .int .u64 0, .int .u64 0, .int .u64 0] 54))
  clear F_y3
  generalize (w8.alloc (.cells #[.int .u64 0, .int .u64 0, .int .u64 0, .int .u64 0, .int .u64 0, .int .u64 0, .int .u64 0, .int .u64 0] 54)) = wA at HBW ⊢
  go_cut [10, 11] from 56 (fun c10 c11 wx => c11 = .int .i64 2 ∧ Hid (Below w.heap.size w wx))
  case first =>
    replace HBW := Lib.hid HBW.out.drew
    refine wp_region_stage 2 (fun w' => True) (by kernel_rfl) ?_
    generalize wA.drew = wd6 at HBW ⊢
    refine wpAnyB_three (i := 0) (j := 1) (k := 6) (some 50) (Op.call { callee := Callee.value (Operand.func 28), args := #[], argTypes := #[] }) 24 (some 51) (Op.makeSlice 27 (Operand.const (Value.int IntKind.i64 8001)) (Operand.const (Value.int IntKind.i64 8001))) 27 (some 10) (Op.alloc 54) 0 ⟨_, rfl, rfl, rfl, rfl, rfl⟩ ⟨_, rfl, rfl, rfl, rfl, rfl⟩ ⟨_, rfl, rfl, rfl, rfl, rfl⟩ (by kernel_rfl) (fun K hK => ?_) (fun K hK => ?_) (fun K hK => ?_)
    · skip
      unfold bareOp
      go_wp2_with (go_at_call 28; refine (small_any _).mono ?_; rintro e w111 ⟨rfl, hb111⟩)
      replace HBW := Lib.hid (HBW.out.trans (hb111.mono HBW.out.size))
      clear hb111
      refine hK.out _ _ (fun _ => trivial) ?_
      clear hK K
      try simp only [Act.put, List.setIfInBounds_toArray, List.set_cons_zero, List.set_cons_succ]
      refine wpAnyB_two (i := 1) (j := 6) (some 51) (Op.makeSlice 27 (Operand.const (Value.int IntKind.i64 8001)) (Operand.const (Value.int IntKind.i64 8001))) 27 (some 10) (Op.alloc 54) 0 ⟨_, rfl, rfl, rfl, rfl, rfl⟩ ⟨_, rfl, rfl, rfl, rfl, rfl⟩ (by kernel_rfl) (fun K hK => ?_) (fun K hK => ?_)
      · skip
        unfold bareOp
        go_wp2_with fail
        have F_z := Lib.hid (hbig1 w111)
        replace HBW := Lib.hid (HBW.out.alloc HBW.out.size BIG1)
        generalize w111.alloc BIG1 = w112 at F_z HBW ⊢
        refine hK.out _ _ (fun _ => trivial) ?_
        clear hK K
        try simp only [Act.put, List.setIfInBounds_toArray, List.set_cons_zero, List.set_cons_succ]
        refine wpAnyB_two (i := 2) (j := 6) (some 52) (Op.call { callee := Callee.value (Operand.func 21), args := #[Operand.tmp 50, Operand.const (Value.int IntKind.u64 18), Operand.const (Value.int IntKind.i64 (-1)), Operand.const (Value.int IntKind.u64 1), Operand.const (Value.int IntKind.u64 1), Operand.const (Value.int IntKind.u64 1), Operand.const (Value.int IntKind.u64 1), Operand.tmp 51], argTypes := #[24, 22, 3, 22, 22, 22, 22, 27] }) 55 (some 10) (Op.alloc 54) 0 ⟨_, rfl, rfl, rfl, rfl, rfl⟩ ⟨_, rfl, rfl, rfl, rfl, rfl⟩ (by kernel_rfl) (fun K hK => ?_) (fun K hK => ?_)
        · skip
          unfold bareOp
          go_wp2_with (go_at_call 21; refine (pbitProve_any _ ⟨HT.out.below HBW.out, F_z.out, HZ1.out⟩ (by decide) (by decide) (by decide) (by decide) (by decide) (by decide) (by decide) (by decide) (by decide) (bpN Z1 8001 (by decide) (by decide))).mono ?_; rintro e w113 ⟨rfl, hb113⟩)
          clear F_z
          replace HBW := Lib.hid (HBW.out.trans (hb113.mono HBW.out.size))
          clear hb113
          refine hK.out _ _ (fun h => absurd (h.symm.trans (by kernel_rfl : _ = true)) (by decide)) ?_
          clear hK K
          try simp only [Act.put, List.setIfInBounds_toArray, List.set_cons_zero, List.set_cons_succ]
          refine wpAnyB_takeP (i := 3) (some 49) (Op.move (Operand.tmp 52)) 55 (v := ?_) ⟨_, rfl, rfl, rfl, rfl, rfl⟩ (by kernel_rfl) (by kernel_rfl) (by kernel_rfl) (by kernel_rfl) (fun _ _ _ h => h) (fun h => absurd (h.symm.trans (by kernel_rfl : _ = true)) (by decide)) (fun w' => ?_) ?_
          rotate_left
          · unfold bareOp
            go_simp
            try with_reducible rfl
          simp only [Act.put, List.setIfInBounds_toArray, List.set_cons_zero, List.set_cons_succ]
          refine wpAnyB_takeP (i := 4) (some 53) (Op.extract (Operand.tmp 49) 0) 54 (v := ?_) ⟨_, rfl, rfl, rfl, rfl, rfl⟩ (by kernel_rfl) (by kernel_rfl) (by kernel_rfl) (by kernel_rfl) (fun _ _ _ h => h) (fun h => absurd (h.symm.trans (by kernel_rfl : _ = true)) (by decide)) (fun w' => ?_) ?_
          rotate_left
          · unfold bareOp
            go_simp
            try with_reducible rfl
          simp only [Act.put, List.setIfInBounds_toArray, List.set_cons_zero, List.set_cons_succ]
          refine wpAnyB_takeP (i := 5) (some 54) (Op.extract (Operand.tmp 49) 1) 29 (v := ?_) ⟨_, rfl, rfl, rfl, rfl, rfl⟩ (by kernel_rfl) (by kernel_rfl) (by kernel_rfl) (by kernel_rfl) (fun _ _ _ h => h) (fun h => absurd (h.symm.trans (by kernel_rfl : _ = true)) (by decide)) (fun w' => ?_) ?_
          rotate_left
          · unfold bareOp
            go_simp
            try with_reducible rfl
          simp only [Act.put, List.setIfInBounds_toArray, List.set_cons_zero, List.set_cons_succ]
          refine wpAnyB_only (i := 6) (some 10) (Op.alloc 54) 0 ⟨_, rfl, rfl, rfl, rfl, rfl⟩ (by kernel_rfl) (fun K hK => ?_)
          unfold bareOp
          go_wp2_with fail
          have F_r := Lib.hid (show Arr .u64 (w113.alloc (.cells #[.int .u64 0, .int .u64 0, .int .u64 0, .int .u64 0, .int .u64 0, .int .u64 0, .int .u64 0, .int .u64 0] 54)) w113.heap.size [0, 0, 0, 0, 0, 0, 0, 0] from Arr.new .u64 w113 [0, 0, 0, 0, 0, 0, 0, 0] _ _ rfl)
          have hle := HBW.out.size
          replace HBW := Lib.hid (HBW.out.alloc HBW.out.size (.cells #[.int .u64 0, .int .u64 0, .int .u64 0, .int .u64 0, .int .u64 0, .int .u64 0, .int .u64 0, .int .u64 0] 54))
          generalize w113.alloc (.cells #[.int .u64 0, .int .u64 0, .int .u64 0, .int .u64 0, .int .u64 0, .int .u64 0, .int .u64 0, .int .u64 0] 54) = w114 at F_r HBW ⊢
          refine hK.out _ _ (fun h => absurd (h.symm.trans (by kernel_rfl : _ = true)) (by decide)) ?_
          clear hK K
          try simp only [Act.put, List.setIfInBounds_toArray, List.set_cons_zero, List.set_cons_succ]
          refine wpAnyB_only (i := 7) none (Op.store 54 (Operand.tmp 10) (Operand.tmp 53)) 0 ⟨_, rfl, rfl, rfl, rfl, rfl⟩ (by kernel_rfl) (fun K hK => ?_)
          unfold bareOp
          obtain ⟨z0_, z1_, z2_, z3_, z4_, z5_, z6_, z7_, z8_, z9_, z10_, z11_, z12_, z13_, z14_, z15_⟩ := Arr.k8 F_r.out
          go_wp2_with fail
          clear z0_ z1_ z2_ z3_ z4_ z5_ z6_ z7_ z8_ z9_ z10_ z11_ z12_ z13_ z14_ z15_ F_r
          replace HBW := Lib.hid ((((((((HBW.out.setCell (p := ⟨w113.heap.size, 0, none⟩) hle (.int .u64 0)).setCell (p := ⟨w113.heap.size, 1, none⟩) hle (.int .u64 0)).setCell (p := ⟨w113.heap.size, 2, none⟩) hle (.int .u64 0)).setCell (p := ⟨w113.heap.size, 3, none⟩) hle (.int .u64 0)).setCell (p := ⟨w113.heap.size, 4, none⟩) hle (.int .u64 0)).setCell (p := ⟨w113.heap.size, 5, none⟩) hle (.int .u64 0)).setCell (p := ⟨w113.heap.size, 6, none⟩) hle (.int .u64 0)).setCell (p := ⟨w113.heap.size, 7, none⟩) hle (.int .u64 0))
          refine hK.out _ _ (fun h => absurd (h.symm.trans (by kernel_rfl : _ = true)) (by decide)) ?_
          clear hK K
          try simp only [Act.put, List.setIfInBounds_toArray, List.set_cons_zero, List.set_cons_succ]
          refine wpAnyB_takeP (i := 8) (some 11) (Op.assign (Operand.tmp 54)) 29 (v := ?_) ⟨_, rfl, rfl, rfl, rfl, rfl⟩ (by kernel_rfl) (by kernel_rfl) (by kernel_rfl) (by kernel_rfl) (fun _ _ _ h => h) (fun h => absurd (h.symm.trans (by kernel_rfl : _ = true)) (by decide)) (fun w' => ?_) ?_
          rotate_left
          · unfold bareOp
            go_simp
            try with_reducible rfl
          simp only [Act.put, List.setIfInBounds_toArray, List.set_cons_zero, List.set_cons_succ]
          refine wpAnyB_done (by kernel_rfl) ?_ _
          go_wp2_with fail
          go_meet
          case rel => exact ⟨rfl, HBW⟩
        · skip
          unfold bareOp
          go_wp2_with fail
          have F_r := Lib.hid (show Arr .u64 (w112.alloc (.cells #[.int .u64 0, .int .u64 0, .int .u64 0, .int .u64 0, .int .u64 0, .int .u64 0, .int .u64 0, .int .u64 0] 54)) w112.heap.size [0, 0, 0, 0, 0, 0, 0, 0] from Arr.new .u64 w112 [0, 0, 0, 0, 0, 0, 0, 0] _ _ rfl)
          have hle := HBW.out.size
          replace F_z := Lib.hid (F_z.out.keep ((Below.refl _ _).alloc (Nat.le_refl _) (.cells #[.int .u64 0, .int .u64 0, .int .u64 0, .int .u64 0, .int .u64 0, .int .u64 0, .int .u64 0, .int .u64 0] 54)))
          replace HBW := Lib.hid (HBW.out.alloc HBW.out.size (.cells #[.int .u64 0, .int .u64 0, .int .u64 0, .int .u64 0, .int .u64 0, .int .u64 0, .int .u64 0, .int .u64 0] 54))
          generalize w112.alloc (.cells #[.int .u64 0, .int .u64 0, .int .u64 0, .int .u64 0, .int .u64 0, .int .u64 0, .int .u64 0, .int .u64 0] 54) = w116 at F_r HBW F_z ⊢
          refine hK.out _ _ (fun _ => trivial) ?_
          clear hK K
          try simp only [Act.put, List.setIfInBounds_toArray, List.set_cons_zero, List.set_cons_succ]
          refine wpAnyB_only (i := 2) (some 52) (Op.call { callee := Callee.value (Operand.func 21), args := #[Operand.tmp 50, Operand.const (Value.int IntKind.u64 18), Operand.const (Value.int IntKind.i64 (-1)), Operand.const (Value.int IntKind.u64 1), Operand.const (Value.int IntKind.u64 1), Operand.const (Value.int IntKind.u64 1), Operand.const (Value.int IntKind.u64 1), Operand.tmp 51], argTypes := #[24, 22, 3, 22, 22, 22, 22, 27] }) 55 ⟨_, rfl, rfl, rfl, rfl, rfl⟩ (by kernel_rfl) (fun K hK => ?_)
          unfold bareOp
          go_wp2_with (go_at_call 21; refine (pbitProve_any _ ⟨HT.out.below HBW.out, F_z.out, HZ1.out⟩ (by decide) (by decide) (by decide) (by decide) (by decide) (by decide) (by decide) (by decide) (by decide) (bpN Z1 8001 (by decide) (by decide))).mono ?_; rintro e w117 ⟨rfl, hb117⟩)
          clear F_z
          replace F_r := Lib.hid (F_r.out.keep hb117)
          replace HBW := Lib.hid (HBW.out.trans (hb117.mono HBW.out.size))
          clear hb117
          refine hK.out _ _ (fun h => absurd (h.symm.trans (by kernel_rfl : _ = true)) (by decide)) ?_
          clear hK K
          try simp only [Act.put, List.setIfInBounds_toArray, List.set_cons_zero, List.set_cons_succ]
          refine wpAnyB_takeP (i := 3) (some 49) (Op.move (Operand.tmp 52)) 55 (v := ?_) ⟨_, rfl, rfl, rfl, rfl, rfl⟩ (by kernel_rfl) (by kernel_rfl) (by kernel_rfl) (by kernel_rfl) (fun _ _ _ h => h) (fun h => absurd (h.symm.trans (by kernel_rfl : _ = true)) (by decide)) (fun w' => ?_) ?_
          rotate_left
          · unfold bareOp
            go_simp
            try with_reducible rfl
          simp only [Act.put, List.setIfInBounds_toArray, List.set_cons_zero, List.set_cons_succ]
          refine wpAnyB_takeP (i := 4) (some 53) (Op.extract (Operand.tmp 49) 0) 54 (v := ?_) ⟨_, rfl, rfl, rfl, rfl, rfl⟩ (by kernel_rfl) (by kernel_rfl) (by kernel_rfl) (by kernel_rfl) (fun _ _ _ h => h) (fun h => absurd (h.symm.trans (by kernel_rfl : _ = true)) (by decide)) (fun w' => ?_) ?_
          rotate_left
          · unfold bareOp
            go_simp
            try with_reducible rfl
          simp only [Act.put, List.setIfInBounds_toArray, List.set_cons_zero, List.set_cons_succ]
          refine wpAnyB_takeP (i := 5) (some 54) (Op.extract (Operand.tmp 49) 1) 29 (v := ?_) ⟨_, rfl, rfl, rfl, rfl, rfl⟩ (by kernel_rfl) (by kernel_rfl) (by kernel_rfl) (by kernel_rfl) (fun _ _ _ h => h) (fun h => absurd (h.symm.trans (by kernel_rfl : _ = true)) (by decide)) (fun w' => ?_) ?_
          rotate_left
          · unfold bareOp
            go_simp
            try with_reducible rfl
          simp only [Act.put, List.setIfInBounds_toArray, List.set_cons_zero, List.set_cons_succ]
          refine wpAnyB_only (i := 7) none (Op.store 54 (Operand.tmp 10) (Operand.tmp 53)) 0 ⟨_, rfl, rfl, rfl, rfl, rfl⟩ (by kernel_rfl) (fun K hK => ?_)
          unfold bareOp
          obtain ⟨z0_, z1_, z2_, z3_, z4_, z5_, z6_, z7_, z8_, z9_, z10_, z11_, z12_, z13_, z14_, z15_⟩ := Arr.k8 F_r.out
          go_wp2_with fail
          clear z0_ z1_ z2_ z3_ z4_ z5_ z6_ z7_ z8_ z9_ z10_ z11_ z12_ z13_ z14_ z15_ F_r
          replace HBW := Lib.hid ((((((((HBW.out.setCell (p := ⟨w112.heap.size, 0, none⟩) hle (.int .u64 0)).setCell (p := ⟨w112.heap.size, 1, none⟩) hle (.int .u64 0)).setCell (p := ⟨w112.heap.size, 2, none⟩) hle (.int .u64 0)).setCell (p := ⟨w112.heap.size, 3, none⟩) hle (.int .u64 0)).setCell (p := ⟨w112.heap.size, 4, none⟩) hle (.int .u64 0)).setCell (p := ⟨w112.heap.size, 5, none⟩) hle (.int .u64 0)).setCell (p := ⟨w112.heap.size, 6, none⟩) hle (.int .u64 0)).setCell (p := ⟨w112.heap.size, 7, none⟩) hle (.int .u64 0))
          refine hK.out _ _ (fun h => absurd (h.symm.trans (by kernel_rfl : _ = true)) (by decide)) ?_
          clear hK K
          try simp only [Act.put, List.setIfInBounds_toArray, List.set_cons_zero, List.set_cons_succ]
          refine wpAnyB_takeP (i := 8) (some 11) (Op.assign (Operand.tmp 54)) 29 (v := ?_) ⟨_, rfl, rfl, rfl, rfl, rfl⟩ (by kernel_rfl) (by kernel_rfl) (by kernel_rfl) (by kernel_rfl) (fun _ _ _ h => h) (fun h => absurd (h.symm.trans (by kernel_rfl : _ = true)) (by decide)) (fun w' => ?_) ?_
          rotate_left
          · unfold bareOp
            go_simp
            try with_reducible rfl
          simp only [Act.put, List.setIfInBounds_toArray, List.set_cons_zero, List.set_cons_succ]
          refine wpAnyB_done (by kernel_rfl) ?_ _
          go_wp2_with fail
          go_meet
          case rel => exact ⟨rfl, HBW⟩
      · skip
        unfold bareOp
        go_wp2_with fail
        have F_r := Lib.hid (show Arr .u64 (w111.alloc (.cells #[.int .u64 0, .int .u64 0, .int .u64 0, .int .u64 0, .int .u64 0, .int .u64 0, .int .u64 0, .int .u64 0] 54)) w111.heap.size [0, 0, 0, 0, 0, 0, 0, 0] from Arr.new .u64 w111 [0, 0, 0, 0, 0, 0, 0, 0] _ _ rfl)
        have hle := HBW.out.size
        replace HBW := Lib.hid (HBW.out.alloc HBW.out.size (.cells #[.int .u64 0, .int .u64 0, .int .u64 0, .int .u64 0, .int .u64 0, .int .u64 0, .int .u64 0, .int .u64 0] 54))
        generalize w111.alloc (.cells #[.int .u64 0, .int .u64 0, .int .u64 0, .int .u64 0, .int .u64 0, .int .u64 0, .int .u64 0, .int .u64 0] 54) = w119 at F_r HBW ⊢
        refine hK.out _ _ (fun _ => trivial) ?_
        clear hK K
        try simp only [Act.put, List.setIfInBounds_toArray, List.set_cons_zero, List.set_cons_succ]
        refine wpAnyB_only (i := 1) (some 51) (Op.makeSlice 27 (Operand.const (Value.int IntKind.i64 8001)) (Operand.const (Value.int IntKind.i64 8001))) 27 ⟨_, rfl, rfl, rfl, rfl, rfl⟩ (by kernel_rfl) (fun K hK => ?_)
        unfold bareOp
        go_wp2_with fail
        have F_z := Lib.hid (hbig1 w119)
        replace F_r := Lib.hid (F_r.out.alloc BIG1)
        replace HBW := Lib.hid (HBW.out.alloc HBW.out.size BIG1)
        generalize w119.alloc BIG1 = w120 at F_z HBW F_r ⊢
        refine hK.out _ _ (fun _ => trivial) ?_
        clear hK K
        try simp only [Act.put, List.setIfInBounds_toArray, List.set_cons_zero, List.set_cons_succ]
        refine wpAnyB_only (i := 2) (some 52) (Op.call { callee := Callee.value (Operand.func 21), args := #[Operand.tmp 50, Operand.const (Value.int IntKind.u64 18), Operand.const (Value.int IntKind.i64 (-1)), Operand.const (Value.int IntKind.u64 1), Operand.const (Value.int IntKind.u64 1), Operand.const (Value.int IntKind.u64 1), Operand.const (Value.int IntKind.u64 1), Operand.tmp 51], argTypes := #[24, 22, 3, 22, 22, 22, 22, 27] }) 55 ⟨_, rfl, rfl, rfl, rfl, rfl⟩ (by kernel_rfl) (fun K hK => ?_)
        unfold bareOp
        go_wp2_with (go_at_call 21; refine (pbitProve_any _ ⟨HT.out.below HBW.out, F_z.out, HZ1.out⟩ (by decide) (by decide) (by decide) (by decide) (by decide) (by decide) (by decide) (by decide) (by decide) (bpN Z1 8001 (by decide) (by decide))).mono ?_; rintro e w121 ⟨rfl, hb121⟩)
        clear F_z
        replace F_r := Lib.hid (F_r.out.keep hb121)
        replace HBW := Lib.hid (HBW.out.trans (hb121.mono HBW.out.size))
        clear hb121
        refine hK.out _ _ (fun h => absurd (h.symm.trans (by kernel_rfl : _ = true)) (by decide)) ?_
        clear hK K
        try simp only [Act.put, List.setIfInBounds_toArray, List.set_cons_zero, List.set_cons_succ]
        refine wpAnyB_takeP (i := 3) (some 49) (Op.move (Operand.tmp 52)) 55 (v := ?_) ⟨_, rfl, rfl, rfl, rfl, rfl⟩ (by kernel_rfl) (by kernel_rfl) (by kernel_rfl) (by kernel_rfl) (fun _ _ _ h => h) (fun h => absurd (h.symm.trans (by kernel_rfl : _ = true)) (by decide)) (fun w' => ?_) ?_
        rotate_left
        · unfold bareOp
          go_simp
          try with_reducible rfl
        simp only [Act.put, List.setIfInBounds_toArray, List.set_cons_zero, List.set_cons_succ]
        refine wpAnyB_takeP (i := 4) (some 53) (Op.extract (Operand.tmp 49) 0) 54 (v := ?_) ⟨_, rfl, rfl, rfl, rfl, rfl⟩ (by kernel_rfl) (by kernel_rfl) (by kernel_rfl) (by kernel_rfl) (fun _ _ _ h => h) (fun h => absurd (h.symm.trans (by kernel_rfl : _ = true)) (by decide)) (fun w' => ?_) ?_
        rotate_left
        · unfold bareOp
          go_simp
          try with_reducible rfl
        simp only [Act.put, List.setIfInBounds_toArray, List.set_cons_zero, List.set_cons_succ]
        refine wpAnyB_takeP (i := 5) (some 54) (Op.extract (Operand.tmp 49) 1) 29 (v := ?_) ⟨_, rfl, rfl, rfl, rfl, rfl⟩ (by kernel_rfl) (by kernel_rfl) (by kernel_rfl) (by kernel_rfl) (fun _ _ _ h => h) (fun h => absurd (h.symm.trans (by kernel_rfl : _ = true)) (by decide)) (fun w' => ?_) ?_
        rotate_left
        · unfold bareOp
          go_simp
          try with_reducible rfl
        simp only [Act.put, List.setIfInBounds_toArray, List.set_cons_zero, List.set_cons_succ]
        refine wpAnyB_only (i := 7) none (Op.store 54 (Operand.tmp 10) (Operand.tmp 53)) 0 ⟨_, rfl, rfl, rfl, rfl, rfl⟩ (by kernel_rfl) (fun K hK => ?_)
        unfold bareOp
        obtain ⟨z0_, z1_, z2_, z3_, z4_, z5_, z6_, z7_, z8_, z9_, z10_, z11_, z12_, z13_, z14_, z15_⟩ := Arr.k8 F_r.out
        go_wp2_with fail
        clear z0_ z1_ z2_ z3_ z4_ z5_ z6_ z7_ z8_ z9_ z10_ z11_ z12_ z13_ z14_ z15_ F_r
        replace HBW := Lib.hid ((((((((HBW.out.setCell (p := ⟨w111.heap.size, 0, none⟩) hle (.int .u64 0)).setCell (p := ⟨w111.heap.size, 1, none⟩) hle (.int .u64 0)).setCell (p := ⟨w111.heap.size, 2, none⟩) hle (.int .u64 0)).setCell (p := ⟨w111.heap.size, 3, none⟩) hle (.int .u64 0)).setCell (p := ⟨w111.heap.size, 4, none⟩) hle (.int .u64 0)).setCell (p := ⟨w111.heap.size, 5, none⟩) hle (.int .u64 0)).setCell (p := ⟨w111.heap.size, 6, none⟩) hle (.int .u64 0)).setCell (p := ⟨w111.heap.size, 7, none⟩) hle (.int .u64 0))
        refine hK.out _ _ (fun h => absurd (h.symm.trans (by kernel_rfl : _ = true)) (by decide)) ?_
        clear hK K
        try simp only [Act.put, List.setIfInBounds_toArray, List.set_cons_zero, List.set_cons_succ]
        refine wpAnyB_takeP (i := 8) (some 11) (Op.assign (Operand.tmp 54)) 29 (v := ?_) ⟨_, rfl, rfl, rfl, rfl, rfl⟩ (by kernel_rfl) (by kernel_rfl) (by kernel_rfl) (by kernel_rfl) (fun _ _ _ h => h) (fun h => absurd (h.symm.trans (by kernel_rfl : _ = true)) (by decide)) (fun w' => ?_) ?_
        rotate_left
        · unfold bareOp
          go_simp
          try with_reducible rfl
        simp only [Act.put, List.setIfInBounds_toArray, List.set_cons_zero, List.set_cons_succ]
        refine wpAnyB_done (by kernel_rfl) ?_ _
        go_wp2_with fail
        go_meet
        case rel => exact ⟨rfl, HBW⟩
    · skip
      unfold bareOp
      go_wp2_with fail
      have F_z := Lib.hid (hbig1 wd6)
      replace HBW := Lib.hid (HBW.out.alloc HBW.out.size BIG1)
      generalize wd6.alloc BIG1 = w123 at F_z HBW ⊢
      refine hK.out _ _ (fun _ => trivial) ?_
      clear hK K
      try simp only [Act.put, List.setIfInBounds_toArray, List.set_cons_zero, List.set_cons_succ]
      refine wpAnyB_two (i := 0) (j := 6) (some 50) (Op.call { callee := Callee.value (Operand.func 28), args := #[], argTypes := #[] }) 24 (some 10) (Op.alloc 54) 0 ⟨_, rfl, rfl, rfl, rfl, rfl⟩ ⟨_, rfl, rfl, rfl, rfl, rfl⟩ (by kernel_rfl) (fun K hK => ?_) (fun K hK => ?_)
      · skip
        unfold bareOp
        go_wp2_with (go_at_call 28; refine (small_any _).mono ?_; rintro e w124 ⟨rfl, hb124⟩)
        replace F_z := Lib.hid (F_z.out.keep hb124)
        replace HBW := Lib.hid (HBW.out.trans (hb124.mono HBW.out.size))
        clear hb124
        refine hK.out _ _ (fun _ => trivial) ?_
        clear hK K
        try simp only [Act.put, List.setIfInBounds_toArray, List.set_cons_zero, List.set_cons_succ]
        refine wpAnyB_two (i := 2) (j := 6) (some 52) (Op.call { callee := Callee.value (Operand.func 21), args := #[Operand.tmp 50, Operand.const (Value.int IntKind.u64 18), Operand.const (Value.int IntKind.i64 (-1)), Operand.const (Value.int IntKind.u64 1), Operand.const (Value.int IntKind.u64 1), Operand.const (Value.int IntKind.u64 1), Operand.const (Value.int IntKind.u64 1), Operand.tmp 51], argTypes := #[24, 22, 3, 22, 22, 22, 22, 27] }) 55 (some 10) (Op.alloc 54) 0 ⟨_, rfl, rfl, rfl, rfl, rfl⟩ ⟨_, rfl, rfl, rfl, rfl, rfl⟩ (by kernel_rfl) (fun K hK => ?_) (fun K hK => ?_)
        · skip
          unfold bareOp
          go_wp2_with (go_at_call 21; refine (pbitProve_any _ ⟨HT.out.below HBW.out, F_z.out, HZ1.out⟩ (by decide) (by decide) (by decide) (by decide) (by decide) (by decide) (by decide) (by decide) (by decide) (bpN Z1 8001 (by decide) (by decide))).mono ?_; rintro e w125 ⟨rfl, hb125⟩)
          clear F_z
          replace HBW := Lib.hid (HBW.out.trans (hb125.mono HBW.out.size))
          clear hb125
          refine hK.out _ _ (fun h => absurd (h.symm.trans (by kernel_rfl : _ = true)) (by decide)) ?_
          clear hK K
          try simp only [Act.put, List.setIfInBounds_toArray, List.set_cons_zero, List.set_cons_succ]
          refine wpAnyB_takeP (i := 3) (some 49) (Op.move (Operand.tmp 52)) 55 (v := ?_) ⟨_, rfl, rfl, rfl, rfl, rfl⟩ (by kernel_rfl) (by kernel_rfl) (by kernel_rfl) (by kernel_rfl) (fun _ _ _ h => h) (fun h => absurd (h.symm.trans (by kernel_rfl : _ = true)) (by decide)) (fun w' => ?_) ?_
          rotate_left
          · unfold bareOp
            go_simp
            try with_reducible rfl
          simp only [Act.put, List.setIfInBounds_toArray, List.set_cons_zero, List.set_cons_succ]
          refine wpAnyB_takeP (i := 4) (some 53) (Op.extract (Operand.tmp 49) 0) 54 (v := ?_) ⟨_, rfl, rfl, rfl, rfl, rfl⟩ (by kernel_rfl) (by kernel_rfl) (by kernel_rfl) (by kernel_rfl) (fun _ _ _ h => h) (fun h => absurd (h.symm.trans (by kernel_rfl : _ = true)) (by decide)) (fun w' => ?_) ?_
          rotate_left
          · unfold bareOp
            go_simp
            try with_reducible rfl
          simp only [Act.put, List.setIfInBounds_toArray, List.set_cons_zero, List.set_cons_succ]
          refine wpAnyB_takeP (i := 5) (some 54) (Op.extract (Operand.tmp 49) 1) 29 (v := ?_) ⟨_, rfl, rfl, rfl, rfl, rfl⟩ (by kernel_rfl) (by kernel_rfl) (by kernel_rfl) (by kernel_rfl) (fun _ _ _ h => h) (fun h => absurd (h.symm.trans (by kernel_rfl : _ = true)) (by decide)) (fun w' => ?_) ?_
          rotate_left
          · unfold bareOp
            go_simp
            try with_reducible rfl
          simp only [Act.put, List.setIfInBounds_toArray, List.set_cons_zero, List.set_cons_succ]
          refine wpAnyB_only (i := 6) (some 10) (Op.alloc 54) 0 ⟨_, rfl, rfl, rfl, rfl, rfl⟩ (by kernel_rfl) (fun K hK => ?_)
          unfold bareOp
          go_wp2_with fail
          have F_r := Lib.hid (show Arr .u64 (w125.alloc (.cells #[.int .u64 0, .int .u64 0, .int .u64 0, .int .u64 0, .int .u64 0, .int .u64 0, .int .u64 0, .int .u64 0] 54)) w125.heap.size [0, 0, 0, 0, 0, 0, 0, 0] from Arr.new .u64 w125 [0, 0, 0, 0, 0, 0, 0, 0] _ _ rfl)
          have hle := HBW.out.size
          replace HBW := Lib.hid (HBW.out.alloc HBW.out.size (.cells #[.int .u64 0, .int .u64 0, .int .u64 0, .int .u64 0, .int .u64 0, .int .u64 0, .int .u64 0, .int .u64 0] 54))
          generalize w125.alloc (.cells #[.int .u64 0, .int .u64 0, .int .u64 0, .int .u64 0, .int .u64 0, .int .u64 0, .int .u64 0, .int .u64 0] 54) = w126 at F_r HBW ⊢
          refine hK.out _ _ (fun h => absurd (h.symm.trans (by kernel_rfl : _ = true)) (by decide)) ?_
          clear hK K
          try simp only [Act.put, List.setIfInBounds_toArray, List.set_cons_zero, List.set_cons_succ]
          refine wpAnyB_only (i := 7) none (Op.store 54 (Operand.tmp 10) (Operand.tmp 53)) 0 ⟨_, rfl, rfl, rfl, rfl, rfl⟩ (by kernel_rfl) (fun K hK => ?_)
          unfold bareOp
          obtain ⟨z0_, z1_, z2_, z3_, z4_, z5_, z6_, z7_, z8_, z9_, z10_, z11_, z12_, z13_, z14_, z15_⟩ := Arr.k8 F_r.out
          go_wp2_with fail
          clear z0_ z1_ z2_ z3_ z4_ z5_ z6_ z7_ z8_ z9_ z10_ z11_ z12_ z13_ z14_ z15_ F_r
          replace HBW := Lib.hid ((((((((HBW.out.setCell (p := ⟨w125.heap.size, 0, none⟩) hle (.int .u64 0)).setCell (p := ⟨w125.heap.size, 1, none⟩) hle (.int .u64 0)).setCell (p := ⟨w125.heap.size, 2, none⟩) hle (.int .u64 0)).setCell (p := ⟨w125.heap.size, 3, none⟩) hle (.int .u64 0)).setCell (p := ⟨w125.heap.size, 4, none⟩) hle (.int .u64 0)).setCell (p := ⟨w125.heap.size, 5, none⟩) hle (.int .u64 0)).setCell (p := ⟨w125.heap.size, 6, none⟩) hle (.int .u64 0)).setCell (p := ⟨w125.heap.size, 7, none⟩) hle (.int .u64 0))
          refine hK.out _ _ (fun h => absurd (h.symm.trans (by kernel_rfl : _ = true)) (by decide)) ?_
          clear hK K
          try simp only [Act.put, List.setIfInBounds_toArray, List.set_cons_zero, List.set_cons_succ]
          refine wpAnyB_takeP (i := 8) (some 11) (Op.assign (Operand.tmp 54)) 29 (v := ?_) ⟨_, rfl, rfl, rfl, rfl, rfl⟩ (by kernel_rfl) (by kernel_rfl) (by kernel_rfl) (by kernel_rfl) (fun _ _ _ h => h) (fun h => absurd (h.symm.trans (by kernel_rfl : _ = true)) (by decide)) (fun w' => ?_) ?_
          rotate_left
          · unfold bareOp
            go_simp
            try with_reducible rfl
          simp only [Act.put, List.setIfInBounds_toArray, List.set_cons_zero, List.set_cons_succ]
          refine wpAnyB_done (by kernel_rfl) ?_ _
          go_wp2_with fail
          go_meet
          case rel => exact ⟨rfl, HBW⟩
        · skip
          unfold bareOp
          go_wp2_with fail
          have F_r := Lib.hid (show Arr .u64 (w124.alloc (.cells #[.int .u64 0, .int .u64 0, .int .u64 0, .int .u64 0, .int .u64 0, .int .u64 0, .int .u64 0, .int .u64 0] 54)) w124.heap.size [0, 0, 0, 0, 0, 0, 0, 0] from Arr.new .u64 w124 [0, 0, 0, 0, 0, 0, 0, 0] _ _ rfl)
          have hle := HBW.out.size
          replace F_z := Lib.hid (F_z.out.keep ((Below.refl _ _).alloc (Nat.le_refl _) (.cells #[.int .u64 0, .int .u64 0, .int .u64 0, .int .u64 0, .int .u64 0, .int .u64 0, .int .u64 0, .int .u64 0] 54)))
          replace HBW := Lib.hid (HBW.out.alloc HBW.out.size (.cells #[.int .u64 0, .int .u64 0, .int .u64 0, .int .u64 0, .int .u64 0, .int .u64 0, .int .u64 0, .int .u64 0] 54))
          generalize w124.alloc (.cells #[.int .u64 0, .int .u64 0, .int .u64 0, .int .u64 0, .int .u64 0, .int .u64 0, .int .u64 0, .int .u64 0] 54) = w128 at F_r HBW F_z ⊢
          refine hK.out _ _ (fun _ => trivial) ?_
          clear hK K
          try simp only [Act.put, List.setIfInBounds_toArray, List.set_cons_zero, List.set_cons_succ]
          refine wpAnyB_only (i := 2) (some 52) (Op.call { callee := Callee.value (Operand.func 21), args := #[Operand.tmp 50, Operand.const (Value.int IntKind.u64 18), Operand.const (Value.int IntKind.i64 (-1)), Operand.const (Value.int IntKind.u64 1), Operand.const (Value.int IntKind.u64 1), Operand.const (Value.int IntKind.u64 1), Operand.const (Value.int IntKind.u64 1), Operand.tmp 51], argTypes := #[24, 22, 3, 22, 22, 22, 22, 27] }) 55 ⟨_, rfl, rfl, rfl, rfl, rfl⟩ (by kernel_rfl) (fun K hK => ?_)
          unfold bareOp
          go_wp2_with (go_at_call 21; refine (pbitProve_any _ ⟨HT.out.below HBW.out, F_z.out, HZ1.out⟩ (by decide) (by decide) (by decide) (by decide) (by decide) (by decide) (by decide) (by decide) (by decide) (bpN Z1 8001 (by decide) (by decide))).mono ?_; rintro e w129 ⟨rfl, hb129⟩)
          clear F_z
          replace F_r := Lib.hid (F_r.out.keep hb129)
          replace HBW := Lib.hid (HBW.out.trans (hb129.mono HBW.out.size))
          clear hb129
          refine hK.out _ _ (fun h => absurd (h.symm.trans (by kernel_rfl : _ = true)) (by decide)) ?_
          clear hK K
          try simp only [Act.put, List.setIfInBounds_toArray, List.set_cons_zero, List.set_cons_succ]
          refine wpAnyB_takeP (i := 3) (some 49) (Op.move (Operand.tmp 52)) 55 (v := ?_) ⟨_, rfl, rfl, rfl, rfl, rfl⟩ (by kernel_rfl) (by kernel_rfl) (by kernel_rfl) (by kernel_rfl) (fun _ _ _ h => h) (fun h => absurd (h.symm.trans (by kernel_rfl : _ = true)) (by decide)) (fun w' => ?_) ?_
          rotate_left
          · unfold bareOp
            go_simp
            try with_reducible rfl
          simp only [Act.put, List.setIfInBounds_toArray, List.set_cons_zero, List.set_cons_succ]
          refine wpAnyB_takeP (i := 4) (some 53) (Op.extract (Operand.tmp 49) 0) 54 (v := ?_) ⟨_, rfl, rfl, rfl, rfl, rfl⟩ (by kernel_rfl) (by kernel_rfl) (by kernel_rfl) (by kernel_rfl) (fun _ _ _ h => h) (fun h => absurd (h.symm.trans (by kernel_rfl : _ = true)) (by decide)) (fun w' => ?_) ?_
          rotate_left
          · unfold bareOp
            go_simp
            try with_reducible rfl
          simp only [Act.put, List.setIfInBounds_toArray, List.set_cons_zero, List.set_cons_succ]
          refine wpAnyB_takeP (i := 5) (some 54) (Op.extract (Operand.tmp 49) 1) 29 (v := ?_) ⟨_, rfl, rfl, rfl, rfl, rfl⟩ (by kernel_rfl) (by kernel_rfl) (by kernel_rfl) (by kernel_rfl) (fun _ _ _ h => h) (fun h => absurd (h.symm.trans (by kernel_rfl : _ = true)) (by decide)) (fun w' => ?_) ?_
          rotate_left
          · unfold bareOp
            go_simp
            try with_reducible rfl
          simp only [Act.put, List.setIfInBounds_toArray, List.set_cons_zero, List.set_cons_succ]
          refine wpAnyB_only (i := 7) none (Op.store 54 (Operand.tmp 10) (Operand.tmp 53)) 0 ⟨_, rfl, rfl, rfl, rfl, rfl⟩ (by kernel_rfl) (fun K hK => ?_)
          unfold bareOp
          obtain ⟨z0_, z1_, z2_, z3_, z4_, z5_, z6_, z7_, z8_, z9_, z10_, z11_, z12_, z13_, z14_, z15_⟩ := Arr.k8 F_r.out
          go_wp2_with fail
          clear z0_ z1_ z2_ z3_ z4_ z5_ z6_ z7_ z8_ z9_ z10_ z11_ z12_ z13_ z14_ z15_ F_r
          replace HBW := Lib.hid ((((((((HBW.out.setCell (p := ⟨w124.heap.size, 0, none⟩) hle (.int .u64 0)).setCell (p := ⟨w124.heap.size, 1, none⟩) hle (.int .u64 0)).setCell (p := ⟨w124.heap.size, 2, none⟩) hle (.int .u64 0)).setCell (p := ⟨w124.heap.size, 3, none⟩) hle (.int .u64 0)).setCell (p := ⟨w124.heap.size, 4, none⟩) hle (.int .u64 0)).setCell (p := ⟨w124.heap.size, 5, none⟩) hle (.int .u64 0)).setCell (p := ⟨w124.heap.size, 6, none⟩) hle (.int .u64 0)).setCell (p := ⟨w124.heap.size, 7, none⟩) hle (.int .u64 0))
          refine hK.out _ _ (fun h => absurd (h.symm.trans (by kernel_rfl : _ = true)) (by decide)) ?_
          clear hK K
          try simp only [Act.put, List.setIfInBounds_toArray, List.set_cons_zero, List.set_cons_succ]
          refine wpAnyB_takeP (i := 8) (some 11) (Op.assign (Operand.tmp 54)) 29 (v := ?_) ⟨_, rfl, rfl, rfl, rfl, rfl⟩ (by kernel_rfl) (by kernel_rfl) (by kernel_rfl) (by kernel_rfl) (fun _ _ _ h => h) (fun h => absurd (h.symm.trans (by kernel_rfl : _ = true)) (by decide)) (fun w' => ?_) ?_
          rotate_left
          · unfold bareOp
            go_simp
            try with_reducible rfl
          simp only [Act.put, List.setIfInBounds_toArray, List.set_cons_zero, List.set_cons_succ]
          refine wpAnyB_done (by kernel_rfl) ?_ _
          go_wp2_with fail
          go_meet
          case rel => exact ⟨rfl, HBW⟩
      · skip
        unfold bareOp
        go_wp2_with fail
        have F_r := Lib.hid (show Arr .u64 (w123.alloc (.cells #[.int .u64 0, .int .u64 0, .int .u64 0, .int .u64 0, .int .u64 0, .int .u64 0, .int .u64 0, .int .u64 0] 54)) w123.heap.size [0, 0, 0, 0, 0, 0, 0, 0] from Arr.new .u64 w123 [0, 0, 0, 0, 0, 0, 0, 0] _ _ rfl)
        have hle := HBW.out.size
        replace F_z := Lib.hid (F_z.out.keep ((Below.refl _ _).alloc (Nat.le_refl _) (.cells #[.int .u64 0, .int .u64 0, .int .u64 0, .int .u64 0, .int .u64 0, .int .u64 0, .int .u64 0, .int .u64 0] 54)))
        replace HBW := Lib.hid (HBW.out.alloc HBW.out.size (.cells #[.int .u64 0, .int .u64 0, .int .u64 0, .int .u64 0, .int .u64 0, .int .u64 0, .int .u64 0, .int .u64 0] 54))
        generalize w123.alloc (.cells #[.int .u64 0, .int .u64 0, .int .u64 0, .int .u64 0, .int .u64 0, .int .u64 0, .int .u64 0, .int .u64 0] 54) = w131 at F_r HBW F_z ⊢
        refine hK.out _ _ (fun _ => trivial) ?_
        clear hK K
        try simp only [Act.put, List.setIfInBounds_toArray, List.set_cons_zero, List.set_cons_succ]
        refine wpAnyB_only (i := 0) (some 50) (Op.call { callee := Callee.value (Operand.func 28), args := #[], argTypes := #[] }) 24 ⟨_, rfl, rfl, rfl, rfl, rfl⟩ (by kernel_rfl) (fun K hK => ?_)
        unfold bareOp
        go_wp2_with (go_at_call 28; refine (small_any _).mono ?_; rintro e w132 ⟨rfl, hb132⟩)
        replace F_z := Lib.hid (F_z.out.keep hb132)
        replace F_r := Lib.hid (F_r.out.keep hb132)
        replace HBW := Lib.hid (HBW.out.trans (hb132.mono HBW.out.size))
        clear hb132
        refine hK.out _ _ (fun _ => trivial) ?_
        clear hK K
        try simp only [Act.put, List.setIfInBounds_toArray, List.set_cons_zero, List.set_cons_succ]
        refine wpAnyB_only (i := 2) (some 52) (Op.call { callee := Callee.value (Operand.func 21), args := #[Operand.tmp 50, Operand.const (Value.int IntKind.u64 18), Operand.const (Value.int IntKind.i64 (-1)), Operand.const (Value.int IntKind.u64 1), Operand.const (Value.int IntKind.u64 1), Operand.const (Value.int IntKind.u64 1), Operand.const (Value.int IntKind.u64 1), Operand.tmp 51], argTypes := #[24, 22, 3, 22, 22, 22, 22, 27] }) 55 ⟨_, rfl, rfl, rfl, rfl, rfl⟩ (by kernel_rfl) (fun K hK => ?_)
        unfold bareOp
        go_wp2_with (go_at_call 21; refine (pbitProve_any _ ⟨HT.out.below HBW.out, F_z.out, HZ1.out⟩ (by decide) (by decide) (by decide) (by decide) (by decide) (by decide) (by decide) (by decide) (by decide) (bpN Z1 8001 (by decide) (by decide))).mono ?_; rintro e w133 ⟨rfl, hb133⟩)
        clear F_z
        replace F_r := Lib.hid (F_r.out.keep hb133)
        replace HBW := Lib.hid (HBW.out.trans (hb133.mono HBW.out.size))
        clear hb133
        refine hK.out _ _ (fun h => absurd (h.symm.trans (by kernel_rfl : _ = true)) (by decide)) ?_
        clear hK K
        try simp only [Act.put, List.setIfInBounds_toArray, List.set_cons_zero, List.set_cons_succ]
        refine wpAnyB_takeP (i := 3) (some 49) (Op.move (Operand.tmp 52)) 55 (v := ?_) ⟨_, rfl, rfl, rfl, rfl, rfl⟩ (by kernel_rfl) (by kernel_rfl) (by kernel_rfl) (by kernel_rfl) (fun _ _ _ h => h) (fun h => absurd (h.symm.trans (by kernel_rfl : _ = true)) (by decide)) (fun w' => ?_) ?_
        rotate_left
        · unfold bareOp
          go_simp
          try with_reducible rfl
        simp only [Act.put, List.setIfInBounds_toArray, List.set_cons_zero, List.set_cons_succ]
        refine wpAnyB_takeP (i := 4) (some 53) (Op.extract (Operand.tmp 49) 0) 54 (v := ?_) ⟨_, rfl, rfl, rfl, rfl, rfl⟩ (by kernel_rfl) (by kernel_rfl) (by kernel_rfl) (by kernel_rfl) (fun _ _ _ h => h) (fun h => absurd (h.symm.trans (by kernel_rfl : _ = true)) (by decide)) (fun w' => ?_) ?_
        rotate_left
        · unfold bareOp
          go_simp
          try with_reducible rfl
        simp only [Act.put, List.setIfInBounds_toArray, List.set_cons_zero, List.set_cons_succ]
        refine wpAnyB_takeP (i := 5) (some 54) (Op.extract (Operand.tmp 49) 1) 29 (v := ?_) ⟨_, rfl, rfl, rfl, rfl, rfl⟩ (by kernel_rfl) (by kernel_rfl) (by kernel_rfl) (by kernel_rfl) (fun _ _ _ h => h) (fun h => absurd (h.symm.trans (by kernel_rfl : _ = true)) (by decide)) (fun w' => ?_) ?_
        rotate_left
        · unfold bareOp
          go_simp
          try with_reducible rfl
        simp only [Act.put, List.setIfInBounds_toArray, List.set_cons_zero, List.set_cons_succ]
        refine wpAnyB_only (i := 7) none (Op.store 54 (Operand.tmp 10) (Operand.tmp 53)) 0 ⟨_, rfl, rfl, rfl, rfl, rfl⟩ (by kernel_rfl) (fun K hK => ?_)
        unfold bareOp
        obtain ⟨z0_, z1_, z2_, z3_, z4_, z5_, z6_, z7_, z8_, z9_, z10_, z11_, z12_, z13_, z14_, z15_⟩ := Arr.k8 F_r.out
        go_wp2_with fail
        clear z0_ z1_ z2_ z3_ z4_ z5_ z6_ z7_ z8_ z9_ z10_ z11_ z12_ z13_ z14_ z15_ F_r
        replace HBW := Lib.hid ((((((((HBW.out.setCell (p := ⟨w123.heap.size, 0, none⟩) hle (.int .u64 0)).setCell (p := ⟨w123.heap.size, 1, none⟩) hle (.int .u64 0)).setCell (p := ⟨w123.heap.size, 2, none⟩) hle (.int .u64 0)).setCell (p := ⟨w123.heap.size, 3, none⟩) hle (.int .u64 0)).setCell (p := ⟨w123.heap.size, 4, none⟩) hle (.int .u64 0)).setCell (p := ⟨w123.heap.size, 5, none⟩) hle (.int .u64 0)).setCell (p := ⟨w123.heap.size, 6, none⟩) hle (.int .u64 0)).setCell (p := ⟨w123.heap.size, 7, none⟩) hle (.int .u64 0))
        refine hK.out _ _ (fun h => absurd (h.symm.trans (by kernel_rfl : _ = true)) (by decide)) ?_
        clear hK K
        try simp only [Act.put, List.setIfInBounds_toArray, List.set_cons_zero, List.set_cons_succ]
        refine wpAnyB_takeP (i := 8) (some 11) (Op.assign (Operand.tmp 54)) 29 (v := ?_) ⟨_, rfl, rfl, rfl, rfl, rfl⟩ (by kernel_rfl) (by kernel_rfl) (by kernel_rfl) (by kernel_rfl) (fun _ _ _ h => h) (fun h => absurd (h.symm.trans (by kernel_rfl : _ = true)) (by decide)) (fun w' => ?_) ?_
        rotate_left
        · unfold bareOp
          go_simp
          try with_reducible rfl
        simp only [Act.put, List.setIfInBounds_toArray, List.set_cons_zero, List.set_cons_succ]
        refine wpAnyB_done (by kernel_rfl) ?_ _
        go_wp2_with fail
        go_meet
        case rel => exact ⟨rfl, HBW⟩
    · skip
      unfold bareOp
      go_wp2_with fail
      have F_r := Lib.hid (show Arr .u64 (wd6.alloc (.cells #[.int .u64 0, .int .u64 0, .int .u64 0, .int .u64 0, .int .u64 0, .int .u64 0, .int .u64 0, .int .u64 0] 54)) wd6.heap.size [0, 0, 0, 0, 0, 0, 0, 0] from Arr.new .u64 wd6 [0, 0, 0, 0, 0, 0, 0, 0] _ _ rfl)
      have hle := HBW.out.size
      replace HBW := Lib.hid (HBW.out.alloc HBW.out.size (.cells #[.int .u64 0, .int .u64 0, .int .u64 0, .int .u64 0, .int .u64 0, .int .u64 0, .int .u64 0, .int .u64 0] 54))
      generalize wd6.alloc (.cells #[.int .u64 0, .int .u64 0, .int .u64 0, .int .u64 0, .int .u64 0, .int .u64 0, .int .u64 0, .int .u64 0] 54) = w135 at F_r HBW ⊢
      refine hK.out _ _ (fun _ => trivial) ?_
      clear hK K
      try simp only [Act.put, List.setIfInBounds_toArray, List.set_cons_zero, List.set_cons_succ]
      refine wpAnyB_two (i := 0) (j := 1) (some 50) (Op.call { callee := Callee.value (Operand.func 28), args := #[], argTypes := #[] }) 24 (some 51) (Op.makeSlice 27 (Operand.const (Value.int IntKind.i64 8001)) (Operand.const (Value.int IntKind.i64 8001))) 27 ⟨_, rfl, rfl, rfl, rfl, rfl⟩ ⟨_, rfl, rfl, rfl, rfl, rfl⟩ (by kernel_rfl) (fun K hK => ?_) (fun K hK => ?_)
      · skip
        unfold bareOp
        go_wp2_with (go_at_call 28; refine (small_any _).mono ?_; rintro e w136 ⟨rfl, hb136⟩)
        replace F_r := Lib.hid (F_r.out.keep hb136)
        replace HBW := Lib.hid (HBW.out.trans (hb136.mono HBW.out.size))
        clear hb136
        refine hK.out _ _ (fun _ => trivial) ?_
        clear hK K
        try simp only [Act.put, List.setIfInBounds_toArray, List.set_cons_zero, List.set_cons_succ]
        refine wpAnyB_only (i := 1) (some 51) (Op.makeSlice 27 (Operand.const (Value.int IntKind.i64 8001)) (Operand.const (Value.int IntKind.i64 8001))) 27 ⟨_, rfl, rfl, rfl, rfl, rfl⟩ (by kernel_rfl) (fun K hK => ?_)
        unfold bareOp
        go_wp2_with fail
        have F_z := Lib.hid (hbig1 w136)
        replace F_r := Lib.hid (F_r.out.alloc BIG1)
        replace HBW := Lib.hid (HBW.out.alloc HBW.out.size BIG1)
        generalize w136.alloc BIG1 = w137 at F_z HBW F_r ⊢
        refine hK.out _ _ (fun _ => trivial) ?_
        clear hK K
        try simp only [Act.put, List.setIfInBounds_toArray, List.set_cons_zero, List.set_cons_succ]
        refine wpAnyB_only (i := 2) (some 52) (Op.call { callee := Callee.value (Operand.func 21), args := #[Operand.tmp 50, Operand.const (Value.int IntKind.u64 18), Operand.const (Value.int IntKind.i64 (-1)), Operand.const (Value.int IntKind.u64 1), Operand.const (Value.int IntKind.u64 1), Operand.const (Value.int IntKind.u64 1), Operand.const (Value.int IntKind.u64 1), Operand.tmp 51], argTypes := #[24, 22, 3, 22, 22, 22, 22, 27] }) 55 ⟨_, rfl, rfl, rfl, rfl, rfl⟩ (by kernel_rfl) (fun K hK => ?_)
        unfold bareOp
        go_wp2_with (go_at_call 21; refine (pbitProve_any _ ⟨HT.out.below HBW.out, F_z.out, HZ1.out⟩ (by decide) (by decide) (by decide) (by decide) (by decide) (by decide) (by decide) (by decide) (by decide) (bpN Z1 8001 (by decide) (by decide))).mono ?_; rintro e w138 ⟨rfl, hb138⟩)
        clear F_z
        replace F_r := Lib.hid (F_r.out.keep hb138)
        replace HBW := Lib.hid (HBW.out.trans (hb138.mono HBW.out.size))
        clear hb138
        refine hK.out _ _ (fun h => absurd (h.symm.trans (by kernel_rfl : _ = true)) (by decide)) ?_
        clear hK K
        try simp only [Act.put, List.setIfInBounds_toArray, List.set_cons_zero, List.set_cons_succ]
        refine wpAnyB_takeP (i := 3) (some 49) (Op.move (Operand.tmp 52)) 55 (v := ?_) ⟨_, rfl, rfl, rfl, rfl, rfl⟩ (by kernel_rfl) (by kernel_rfl) (by kernel_rfl) (by kernel_rfl) (fun _ _ _ h => h) (fun h => absurd (h.symm.trans (by kernel_rfl : _ = true)) (by decide)) (fun w' => ?_) ?_
        rotate_left
        · unfold bareOp
          go_simp
          try with_reducible rfl
        simp only [Act.put, List.setIfInBounds_toArray, List.set_cons_zero, List.set_cons_succ]
        refine wpAnyB_takeP (i := 4) (some 53) (Op.extract (Operand.tmp 49) 0) 54 (v := ?_) ⟨_, rfl, rfl, rfl, rfl, rfl⟩ (by kernel_rfl) (by kernel_rfl) (by kernel_rfl) (by kernel_rfl) (fun _ _ _ h => h) (fun h => absurd (h.symm.trans (by kernel_rfl : _ = true)) (by decide)) (fun w' => ?_) ?_
        rotate_left
        · unfold bareOp
          go_simp
          try with_reducible rfl
        simp only [Act.put, List.setIfInBounds_toArray, List.set_cons_zero, List.set_cons_succ]
        refine wpAnyB_takeP (i := 5) (some 54) (Op.extract (Operand.tmp 49) 1) 29 (v := ?_) ⟨_, rfl, rfl, rfl, rfl, rfl⟩ (by kernel_rfl) (by kernel_rfl) (by kernel_rfl) (by kernel_rfl) (fun _ _ _ h => h) (fun h => absurd (h.symm.trans (by kernel_rfl : _ = true)) (by decide)) (fun w' => ?_) ?_
        rotate_left
        · unfold bareOp
          go_simp
          try with_reducible rfl
        simp only [Act.put, List.setIfInBounds_toArray, List.set_cons_zero, List.set_cons_succ]
        refine wpAnyB_only (i := 7) none (Op.store 54 (Operand.tmp 10) (Operand.tmp 53)) 0 ⟨_, rfl, rfl, rfl, rfl, rfl⟩ (by kernel_rfl) (fun K hK => ?_)
        unfold bareOp
        obtain ⟨z0_, z1_, z2_, z3_, z4_, z5_, z6_, z7_, z8_, z9_, z10_, z11_, z12_, z13_, z14_, z15_⟩ := Arr.k8 F_r.out
        go_wp2_with fail
        clear z0_ z1_ z2_ z3_ z4_ z5_ z6_ z7_ z8_ z9_ z10_ z11_ z12_ z13_ z14_ z15_ F_r
        replace HBW := Lib.hid ((((((((HBW.out.setCell (p := ⟨wd6.heap.size, 0, none⟩) hle (.int .u64 0)).setCell (p := ⟨wd6.heap.size, 1, none⟩) hle (.int .u64 0)).setCell (p := ⟨wd6.heap.size, 2, none⟩) hle (.int .u64 0)).setCell (p := ⟨wd6.heap.size, 3, none⟩) hle (.int .u64 0)).setCell (p := ⟨wd6.heap.size, 4, none⟩) hle (.int .u64 0)).setCell (p := ⟨wd6.heap.size, 5, none⟩) hle (.int .u64 0)).setCell (p := ⟨wd6.heap.size, 6, none⟩) hle (.int .u64 0)).setCell (p := ⟨wd6.heap.size, 7, none⟩) hle (.int .u64 0))
        refine hK.out _ _ (fun h => absurd (h.symm.trans (by kernel_rfl : _ = true)) (by decide)) ?_
        clear hK K
        try simp only [Act.put, List.setIfInBounds_toArray, List.set_cons_zero, List.set_cons_succ]
        refine wpAnyB_takeP (i := 8) (some 11) (Op.assign (Operand.tmp 54)) 29 (v := ?_) ⟨_, rfl, rfl, rfl, rfl, rfl⟩ (by kernel_rfl) (by kernel_rfl) (by kernel_rfl) (by kernel_rfl) (fun _ _ _ h => h) (fun h => absurd (h.symm.trans (by kernel_rfl : _ = true)) (by decide)) (fun w' => ?_) ?_
        rotate_left
        · unfold bareOp
          go_simp
          try with_reducible rfl
        simp only [Act.put, List.setIfInBounds_toArray, List.set_cons_zero, List.set_cons_succ]
        refine wpAnyB_done (by kernel_rfl) ?_ _
        go_wp2_with fail
        go_meet
        case rel => exact ⟨rfl, HBW⟩
      · skip
        unfold bareOp
        go_wp2_with fail
        have F_z := Lib.hid (hbig1 w135)
        replace F_r := Lib.hid (F_r.out.alloc BIG1)
        replace HBW := Lib.hid (HBW.out.alloc HBW.out.size BIG1)
        generalize w135.alloc BIG1 = w140 at F_z HBW F_r ⊢
        refine hK.out _ _ (fun _ => trivial) ?_
        clear hK K
        try simp only [Act.put, List.setIfInBounds_toArray, List.set_cons_zero, List.set_cons_succ]
        refine wpAnyB_only (i := 0) (some 50) (Op.call { callee := Callee.value (Operand.func 28), args := #[], argTypes := #[] }) 24 ⟨_, rfl, rfl, rfl, rfl, rfl⟩ (by kernel_rfl) (fun K hK => ?_)
        unfold bareOp
        go_wp2_with (go_at_call 28; refine (small_any _).mono ?_; rintro e w141 ⟨rfl, hb141⟩)
        replace F_z := Lib.hid (F_z.out.keep hb141)
        replace F_r := Lib.hid (F_r.out.keep hb141)
        replace HBW := Lib.hid (HBW.out.trans (hb141.mono HBW.out.size))
        clear hb141
        refine hK.out _ _ (fun _ => trivial) ?_
        clear hK K
        try simp only [Act.put, List.setIfInBounds_toArray, List.set_cons_zero, List.set_cons_succ]
        refine wpAnyB_only (i := 2) (some 52) (Op.call { callee := Callee.value (Operand.func 21), args := #[Operand.tmp 50, Operand.const (Value.int IntKind.u64 18), Operand.const (Value.int IntKind.i64 (-1)), Operand.const (Value.int IntKind.u64 1), Operand.const (Value.int IntKind.u64 1), Operand.const (Value.int IntKind.u64 1), Operand.const (Value.int IntKind.u64 1), Operand.tmp 51], argTypes := #[24, 22, 3, 22, 22, 22, 22, 27] }) 55 ⟨_, rfl, rfl, rfl, rfl, rfl⟩ (by kernel_rfl) (fun K hK => ?_)
        unfold bareOp
        go_wp2_with (go_at_call 21; refine (pbitProve_any _ ⟨HT.out.below HBW.out, F_z.out, HZ1.out⟩ (by decide) (by decide) (by decide) (by decide) (by decide) (by decide) (by decide) (by decide) (by decide) (bpN Z1 8001 (by decide) (by decide))).mono ?_; rintro e w142 ⟨rfl, hb142⟩)
        clear F_z
        replace F_r := Lib.hid (F_r.out.keep hb142)
        replace HBW := Lib.hid (HBW.out.trans (hb142.mono HBW.out.size))
        clear hb142
        refine hK.out _ _ (fun h => absurd (h.symm.trans (by kernel_rfl : _ = true)) (by decide)) ?_
        clear hK K
        try simp only [Act.put, List.setIfInBounds_toArray, List.set_cons_zero, List.set_cons_succ]
        refine wpAnyB_takeP (i := 3) (some 49) (Op.move (Operand.tmp 52)) 55 (v := ?_) ⟨_, rfl, rfl, rfl, rfl, rfl⟩ (by kernel_rfl) (by kernel_rfl) (by kernel_rfl) (by kernel_rfl) (fun _ _ _ h => h) (fun h => absurd (h.symm.trans (by kernel_rfl : _ = true)) (by decide)) (fun w' => ?_) ?_
        rotate_left
        · unfold bareOp
          go_simp
          try with_reducible rfl
        simp only [Act.put, List.setIfInBounds_toArray, List.set_cons_zero, List.set_cons_succ]
        refine wpAnyB_takeP (i := 4) (some 53) (Op.extract (Operand.tmp 49) 0) 54 (v := ?_) ⟨_, rfl, rfl, rfl, rfl, rfl⟩ (by kernel_rfl) (by kernel_rfl) (by kernel_rfl) (by kernel_rfl) (fun _ _ _ h => h) (fun h => absurd (h.symm.trans (by kernel_rfl : _ = true)) (by decide)) (fun w' => ?_) ?_
        rotate_left
        · unfold bareOp
          go_simp
          try with_reducible rfl
        simp only [Act.put, List.setIfInBounds_toArray, List.set_cons_zero, List.set_cons_succ]
        refine wpAnyB_takeP (i := 5) (some 54) (Op.extract (Operand.tmp 49) 1) 29 (v := ?_) ⟨_, rfl, rfl, rfl, rfl, rfl⟩ (by kernel_rfl) (by kernel_rfl) (by kernel_rfl) (by kernel_rfl) (fun _ _ _ h => h) (fun h => absurd (h.symm.trans (by kernel_rfl : _ = true)) (by decide)) (fun w' => ?_) ?_
        rotate_left
        · unfold bareOp
          go_simp
          try with_reducible rfl
        simp only [Act.put, List.setIfInBounds_toArray, List.set_cons_zero, List.set_cons_succ]
        refine wpAnyB_only (i := 7) none (Op.store 54 (Operand.tmp 10) (Operand.tmp 53)) 0 ⟨_, rfl, rfl, rfl, rfl, rfl⟩ (by kernel_rfl) (fun K hK => ?_)
        unfold bareOp
        obtain ⟨z0_, z1_, z2_, z3_, z4_, z5_, z6_, z7_, z8_, z9_, z10_, z11_, z12_, z13_, z14_, z15_⟩ := Arr.k8 F_r.out
        go_wp2_with fail
        clear z0_ z1_ z2_ z3_ z4_ z5_ z6_ z7_ z8_ z9_ z10_ z11_ z12_ z13_ z14_ z15_ F_r
        replace HBW := Lib.hid ((((((((HBW.out.setCell (p := ⟨wd6.heap.size, 0, none⟩) hle (.int .u64 0)).setCell (p := ⟨wd6.heap.size, 1, none⟩) hle (.int .u64 0)).setCell (p := ⟨wd6.heap.size, 2, none⟩) hle (.int .u64 0)).setCell (p := ⟨wd6.heap.size, 3, none⟩) hle (.int .u64 0)).setCell (p := ⟨wd6.heap.size, 4, none⟩) hle (.int .u64 0)).setCell (p := ⟨wd6.heap.size, 5, none⟩) hle (.int .u64 0)).setCell (p := ⟨wd6.heap.size, 6, none⟩) hle (.int .u64 0)).setCell (p := ⟨wd6.heap.size, 7, none⟩) hle (.int .u64 0))
        refine hK.out _ _ (fun h => absurd (h.symm.trans (by kernel_rfl : _ = true)) (by decide)) ?_
        clear hK K
        try simp only [Act.put, List.setIfInBounds_toArray, List.set_cons_zero, List.set_cons_succ]
        refine wpAnyB_takeP (i := 8) (some 11) (Op.assign (Operand.tmp 54)) 29 (v := ?_) ⟨_, rfl, rfl, rfl, rfl, rfl⟩ (by kernel_rfl) (by kernel_rfl) (by kernel_rfl) (by kernel_rfl) (fun _ _ _ h => h) (fun h => absurd (h.symm.trans (by kernel_rfl : _ = true)) (by decide)) (fun w' => ?_) ?_
        rotate_left
        · unfold bareOp
          go_simp
          try with_reducible rfl
        simp only [Act.put, List.setIfInBounds_toArray, List.set_cons_zero, List.set_cons_succ]
        refine wpAnyB_done (by kernel_rfl) ?_ _
        go_wp2_with fail
        go_meet
        case rel => exact ⟨rfl, HBW⟩
  case rest =>
    clear HBW
    obtain ⟨rfl, HBW⟩ := hcut
    go_wp2_with fail
    go_cut [12, 13] from 62 (fun c12 c13 wx => c13 = .int .i64 4 ∧ Hid (Below w.heap.size w wx))
    case first =>
      replace HBW := Lib.hid HBW.out.drew
      refine wp_region_stage 2 (fun w' => True) (by kernel_rfl) ?_
      generalize wc.drew = wd7 at HBW ⊢
      refine wpAnyB_three (i := 0) (j := 1) (k := 6) (some 56) (Op.call { callee := Callee.value (Operand.func 28), args := #[], argTypes := #[] }) 24 (some 57) (Op.makeSlice 27 (Operand.const (Value.int IntKind.i64 8001)) (Operand.const (Value.int IntKind.i64 8001))) 27 (some 12) (Op.alloc 54) 0 ⟨_, rfl, rfl, rfl, rfl, rfl⟩ ⟨_, rfl, rfl, rfl, rfl, rfl⟩ ⟨_, rfl, rfl, rfl, rfl, rfl⟩ (by kernel_rfl) (fun K hK => ?_) (fun K hK => ?_) (fun K hK => ?_)
      · skip
        unfold bareOp
        go_wp2_with (go_at_call 28; refine (small_any _).mono ?_; rintro e w121 ⟨rfl, hb121⟩)
        replace HBW := Lib.hid (HBW.out.trans (hb121.mono HBW.out.size))
        clear hb121
        refine hK.out _ _ (fun _ => trivial) ?_
        clear hK K
        try simp only [Act.put, List.setIfInBounds_toArray, List.set_cons_zero, List.set_cons_succ]
        refine wpAnyB_two (i := 1) (j := 6) (some 57) (Op.makeSlice 27 (Operand.const (Value.int IntKind.i64 8001)) (Operand.const (Value.int IntKind.i64 8001))) 27 (some 12) (Op.alloc 54) 0 ⟨_, rfl, rfl, rfl, rfl, rfl⟩ ⟨_, rfl, rfl, rfl, rfl, rfl⟩ (by kernel_rfl) (fun K hK => ?_) (fun K hK => ?_)
        · skip
          unfold bareOp
          go_wp2_with fail
          have F_z := Lib.hid (hbig1 w121)
          replace HBW := Lib.hid (HBW.out.alloc HBW.out.size BIG1)
          generalize w121.alloc BIG1 = w122 at F_z HBW ⊢
          refine hK.out _ _ (fun _ => trivial) ?_
          clear hK K
          try simp only [Act.put, List.setIfInBounds_toArray, List.set_cons_zero, List.set_cons_succ]
          refine wpAnyB_two (i := 2) (j := 6) (some 58) (Op.call { callee := Callee.value (Operand.func 21), args := #[Operand.tmp 56, Operand.const (Value.int IntKind.u64 18), Operand.const (Value.int IntKind.i64 1), Operand.const (Value.int IntKind.u64 1), Operand.const (Value.int IntKind.u64 1), Operand.const (Value.int IntKind.u64 1), Operand.const (Value.int IntKind.u64 1), Operand.tmp 57], argTypes := #[24, 22, 3, 22, 22, 22, 22, 27] }) 55 (some 12) (Op.alloc 54) 0 ⟨_, rfl, rfl, rfl, rfl, rfl⟩ ⟨_, rfl, rfl, rfl, rfl, rfl⟩ (by kernel_rfl) (fun K hK => ?_) (fun K hK => ?_)
          · skip
            unfold bareOp
            go_wp2_with (go_at_call 21; refine (pbitProve_any _ ⟨HT.out.below HBW.out, F_z.out, HZ1.out⟩ (by decide) (by decide) (by decide) (by decide) (by decide) (by decide) (by decide) (by decide) (by decide) (bpLong Z1)).mono ?_; rintro e w123 ⟨rfl, hb123⟩)
            clear F_z
            replace HBW := Lib.hid (HBW.out.trans (hb123.mono HBW.out.size))
            clear hb123
            refine hK.out _ _ (fun h => absurd (h.symm.trans (by kernel_rfl : _ = true)) (by decide)) ?_
            clear hK K
            try simp only [Act.put, List.setIfInBounds_toArray, List.set_cons_zero, List.set_cons_succ]
            refine wpAnyB_takeP (i := 3) (some 55) (Op.move (Operand.tmp 58)) 55 (v := ?_) ⟨_, rfl, rfl, rfl, rfl, rfl⟩ (by kernel_rfl) (by kernel_rfl) (by kernel_rfl) (by kernel_rfl) (fun _ _ _ h => h) (fun h => absurd (h.symm.trans (by kernel_rfl : _ = true)) (by decide)) (fun w' => ?_) ?_
            rotate_left
            · unfold bareOp
              go_simp
              try with_reducible rfl
            simp only [Act.put, List.setIfInBounds_toArray, List.set_cons_zero, List.set_cons_succ]
            refine wpAnyB_takeP (i := 4) (some 59) (Op.extract (Operand.tmp 55) 0) 54 (v := ?_) ⟨_, rfl, rfl, rfl, rfl, rfl⟩ (by kernel_rfl) (by kernel_rfl) (by kernel_rfl) (by kernel_rfl) (fun _ _ _ h => h) (fun h => absurd (h.symm.trans (by kernel_rfl : _ = true)) (by decide)) (fun w' => ?_) ?_
            rotate_left
            · unfold bareOp
              go_simp
              try with_reducible rfl
            simp only [Act.put, List.setIfInBounds_toArray, List.set_cons_zero, List.set_cons_succ]
            refine wpAnyB_takeP (i := 5) (some 60) (Op.extract (Operand.tmp 55) 1) 29 (v := ?_) ⟨_, rfl, rfl, rfl, rfl, rfl⟩ (by kernel_rfl) (by kernel_rfl) (by kernel_rfl) (by kernel_rfl) (fun _ _ _ h => h) (fun h => absurd (h.symm.trans (by kernel_rfl : _ = true)) (by decide)) (fun w' => ?_) ?_
            rotate_left
            · unfold bareOp
              go_simp
              try with_reducible rfl
            simp only [Act.put, List.setIfInBounds_toArray, List.set_cons_zero, List.set_cons_succ]
            refine wpAnyB_only (i := 6) (some 12) (Op.alloc 54) 0 ⟨_, rfl, rfl, rfl, rfl, rfl⟩ (by kernel_rfl) (fun K hK => ?_)
            unfold bareOp
            go_wp2_with fail
            have F_r := Lib.hid (show Arr .u64 (w123.alloc (.cells #[.int .u64 0, .int .u64 0, .int .u64 0, .int .u64 0, .int .u64 0, .int .u64 0, .int .u64 0, .int .u64 0] 54)) w123.heap.size [0, 0, 0, 0, 0, 0, 0, 0] from Arr.new .u64 w123 [0, 0, 0, 0, 0, 0, 0, 0] _ _ rfl)
            have hle := HBW.out.size
            replace HBW := Lib.hid (HBW.out.alloc HBW.out.size (.cells #[.int .u64 0, .int .u64 0, .int .u64 0, .int .u64 0, .int .u64 0, .int .u64 0, .int .u64 0, .int .u64 0] 54))
            generalize w123.alloc (.cells #[.int .u64 0, .int .u64 0, .int .u64 0, .int .u64 0, .int .u64 0, .int .u64 0, .int .u64 0, .int .u64 0] 54) = w124 at F_r HBW ⊢
            refine hK.out _ _ (fun h => absurd (h.symm.trans (by kernel_rfl : _ = true)) (by decide)) ?_
            clear hK K
            try simp only [Act.put, List.setIfInBounds_toArray, List.set_cons_zero, List.set_cons_succ]
            refine wpAnyB_only (i := 7) none (Op.store 54 (Operand.tmp 12) (Operand.tmp 59)) 0 ⟨_, rfl, rfl, rfl, rfl, rfl⟩ (by kernel_rfl) (fun K hK => ?_)
            unfold bareOp
            obtain ⟨z0_, z1_, z2_, z3_, z4_, z5_, z6_, z7_, z8_, z9_, z10_, z11_, z12_, z13_, z14_, z15_⟩ := Arr.k8 F_r.out
            go_wp2_with fail
            clear z0_ z1_ z2_ z3_ z4_ z5_ z6_ z7_ z8_ z9_ z10_ z11_ z12_ z13_ z14_ z15_ F_r
            replace HBW := Lib.hid ((((((((HBW.out.setCell (p := ⟨w123.heap.size, 0, none⟩) hle (.int .u64 0)).setCell (p := ⟨w123.heap.size, 1, none⟩) hle (.int .u64 0)).setCell (p := ⟨w123.heap.size, 2, none⟩) hle (.int .u64 0)).setCell (p := ⟨w123.heap.size, 3, none⟩) hle (.int .u64 0)).setCell (p := ⟨w123.heap.size, 4, none⟩) hle (.int .u64 0)).setCell (p := ⟨w123.heap.size, 5, none⟩) hle (.int .u64 0)).setCell (p := ⟨w123.heap.size, 6, none⟩) hle (.int .u64 0)).setCell (p := ⟨w123.heap.size, 7, none⟩) hle (.int .u64 0))
            refine hK.out _ _ (fun h => absurd (h.symm.trans (by kernel_rfl : _ = true)) (by decide)) ?_
            clear hK K
            try simp only [Act.put, List.setIfInBounds_toArray, List.set_cons_zero, List.set_cons_succ]
            refine wpAnyB_takeP (i := 8) (some 13) (Op.assign (Operand.tmp 60)) 29 (v := ?_) ⟨_, rfl, rfl, rfl, rfl, rfl⟩ (by kernel_rfl) (by kernel_rfl) (by kernel_rfl) (by kernel_rfl) (fun _ _ _ h => h) (fun h => absurd (h.symm.trans (by kernel_rfl : _ = true)) (by decide)) (fun w' => ?_) ?_
            rotate_left
            · unfold bareOp
              go_simp
              try with_reducible rfl
            simp only [Act.put, List.setIfInBounds_toArray, List.set_cons_zero, List.set_cons_succ]
            refine wpAnyB_done (by kernel_rfl) ?_ _
            go_wp2_with fail
            go_meet
            case rel => exact ⟨rfl, HBW⟩
          · skip
            unfold bareOp
            go_wp2_with fail
            have F_r := Lib.hid (show Arr .u64 (w122.alloc (.cells #[.int .u64 0, .int .u64 0, .int .u64 0, .int .u64 0, .int .u64 0, .int .u64 0, .int .u64 0, .int .u64 0] 54)) w122.heap.size [0, 0, 0, 0, 0, 0, 0, 0] from Arr.new .u64 w122 [0, 0, 0, 0, 0, 0, 0, 0] _ _ rfl)
            have hle := HBW.out.size
            replace F_z := Lib.hid (F_z.out.keep ((Below.refl _ _).alloc (Nat.le_refl _) (.cells #[.int .u64 0, .int .u64 0, .int .u64 0, .int .u64 0, .int .u64 0, .int .u64 0, .int .u64 0, .int .u64 0] 54)))
            replace HBW := Lib.hid (HBW.out.alloc HBW.out.size (.cells #[.int .u64 0, .int .u64 0, .int .u64 0, .int .u64 0, .int .u64 0, .int .u64 0, .int .u64 0, .int .u64 0] 54))
            generalize w122.alloc (.cells #[.int .u64 0, .int .u64 0, .int .u64 0, .int .u64 0, .int .u64 0, .int .u64 0, .int .u64 0, .int .u64 0] 54) = w126 at F_r HBW F_z ⊢
            refine hK.out _ _ (fun _ => trivial) ?_
            clear hK K
            try simp only [Act.put, List.setIfInBounds_toArray, List.set_cons_zero, List.set_cons_succ]
            refine wpAnyB_only (i := 2) (some 58) (Op.call { callee := Callee.value (Operand.func 21), args := #[Operand.tmp 56, Operand.const (Value.int IntKind.u64 18), Operand.const (Value.int IntKind.i64 1), Operand.const (Value.int IntKind.u64 1), Operand.const (Value.int IntKind.u64 1), Operand.const (Value.int IntKind.u64 1), Operand.const (Value.int IntKind.u64 1), Operand.tmp 57], argTypes := #[24, 22, 3, 22, 22, 22, 22, 27] }) 55 ⟨_, rfl, rfl, rfl, rfl, rfl⟩ (by kernel_rfl) (fun K hK => ?_)
            unfold bareOp
            go_wp2_with (go_at_call 21; refine (pbitProve_any _ ⟨HT.out.below HBW.out, F_z.out, HZ1.out⟩ (by decide) (by decide) (by decide) (by decide) (by decide) (by decide) (by decide) (by decide) (by decide) (bpLong Z1)).mono ?_; rintro e w127 ⟨rfl, hb127⟩)
            clear F_z
            replace F_r := Lib.hid (F_r.out.keep hb127)
            replace HBW := Lib.hid (HBW.out.trans (hb127.mono HBW.out.size))
            clear hb127
            refine hK.out _ _ (fun h => absurd (h.symm.trans (by kernel_rfl : _ = true)) (by decide)) ?_
            clear hK K
            try simp only [Act.put, List.setIfInBounds_toArray, List.set_cons_zero, List.set_cons_succ]
            refine wpAnyB_takeP (i := 3) (some 55) (Op.move (Operand.tmp 58)) 55 (v := ?_) ⟨_, rfl, rfl, rfl, rfl, rfl⟩ (by kernel_rfl) (by kernel_rfl) (by kernel_rfl) (by kernel_rfl) (fun _ _ _ h => h) (fun h => absurd (h.symm.trans (by kernel_rfl : _ = true)) (by decide)) (fun w' => ?_) ?_
            rotate_left
            · unfold bareOp
              go_simp
              try with_reducible rfl
            simp only [Act.put, List.setIfInBounds_toArray, List.set_cons_zero, List.set_cons_succ]
            refine wpAnyB_takeP (i := 4) (some 59) (Op.extract (Operand.tmp 55) 0) 54 (v := ?_) ⟨_, rfl, rfl, rfl, rfl, rfl⟩ (by kernel_rfl) (by kernel_rfl) (by kernel_rfl) (by kernel_rfl) (fun _ _ _ h => h) (fun h => absurd (h.symm.trans (by kernel_rfl : _ = true)) (by decide)) (fun w' => ?_) ?_
            rotate_left
            · unfold bareOp
              go_simp
              try with_reducible rfl
            simp only [Act.put, List.setIfInBounds_toArray, List.set_cons_zero, List.set_cons_succ]
            refine wpAnyB_takeP (i := 5) (some 60) (Op.extract (Operand.tmp 55) 1) 29 (v := ?_) ⟨_, rfl, rfl, rfl, rfl, rfl⟩ (by kernel_rfl) (by kernel_rfl) (by kernel_rfl) (by kernel_rfl) (fun _ _ _ h => h) (fun h => absurd (h.symm.trans (by kernel_rfl : _ = true)) (by decide)) (fun w' => ?_) ?_
            rotate_left
            · unfold bareOp
              go_simp
              try with_reducible rfl
            simp only [Act.put, List.setIfInBounds_toArray, List.set_cons_zero, List.set_cons_succ]
            refine wpAnyB_only (i := 7) none (Op.store 54 (Operand.tmp 12) (Operand.tmp 59)) 0 ⟨_, rfl, rfl, rfl, rfl, rfl⟩ (by kernel_rfl) (fun K hK => ?_)
            unfold bareOp
            obtain ⟨z0_, z1_, z2_, z3_, z4_, z5_, z6_, z7_, z8_, z9_, z10_, z11_, z12_, z13_, z14_, z15_⟩ := Arr.k8 F_r.out
            go_wp2_with fail
            clear z0_ z1_ z2_ z3_ z4_ z5_ z6_ z7_ z8_ z9_ z10_ z11_ z12_ z13_ z14_ z15_ F_r
            replace HBW := Lib.hid ((((((((HBW.out.setCell (p := ⟨w122.heap.size, 0, none⟩) hle (.int .u64 0)).setCell (p := ⟨w122.heap.size, 1, none⟩) hle (.int .u64 0)).setCell (p := ⟨w122.heap.size, 2, none⟩) hle (.int .u64 0)).setCell (p := ⟨w122.heap.size, 3, none⟩) hle (.int .u64 0)).setCell (p := ⟨w122.heap.size, 4, none⟩) hle (.int .u64 0)).setCell (p := ⟨w122.heap.size, 5, none⟩) hle (.int .u64 0)).setCell (p := ⟨w122.heap.size, 6, none⟩) hle (.int .u64 0)).setCell (p := ⟨w122.heap.size, 7, none⟩) hle (.int .u64 0))
            refine hK.out _ _ (fun h => absurd (h.symm.trans (by kernel_rfl : _ = true)) (by decide)) ?_
            clear hK K
            try simp only [Act.put, List.setIfInBounds_toArray, List.set_cons_zero, List.set_cons_succ]
            refine wpAnyB_takeP (i := 8) (some 13) (Op.assign (Operand.tmp 60)) 29 (v := ?_) ⟨_, rfl, rfl, rfl, rfl, rfl⟩ (by kernel_rfl) (by kernel_rfl) (by kernel_rfl) (by kernel_rfl) (fun _ _ _ h => h) (fun h => absurd (h.symm.trans (by kernel_rfl : _ = true)) (by decide)) (fun w' => ?_) ?_
            rotate_left
            · unfold bareOp
              go_simp
              try with_reducible rfl
            simp only [Act.put, List.setIfInBounds_toArray, List.set_cons_zero, List.set_cons_succ]
            refine wpAnyB_done (by kernel_rfl) ?_ _
            go_wp2_with fail
            go_meet
            case rel => exact ⟨rfl, HBW⟩
        · skip
          unfold bareOp
          go_wp2_with fail
          have F_r := Lib.hid (show Arr .u64 (w121.alloc (.cells #[.int .u64 0, .int .u64 0, .int .u64 0, .int .u64 0, .int .u64 0, .int .u64 0, .int .u64 0, .int .u64 0] 54)) w121.heap.size [0, 0, 0, 0, 0, 0, 0, 0] from Arr.new .u64 w121 [0, 0, 0, 0, 0, 0, 0, 0] _ _ rfl)
          have hle := HBW.out.size
          replace HBW := Lib.hid (HBW.out.alloc HBW.out.size (.cells #[.int .u64 0, .int .u64 0, .int .u64 0, .int .u64 0, .int .u64 0, .int .u64 0, .int .u64 0, .int .u64 0] 54))
          generalize w121.alloc (.cells #[.int .u64 0, .int .u64 0, .int .u64 0, .int .u64 0, .int .u64 0, .int .u64 0, .int .u64 0, .int .u64 0] 54) = w129 at F_r HBW ⊢
          refine hK.out _ _ (fun _ => trivial) ?_
          clear hK K
          try simp only [Act.put, List.setIfInBounds_toArray, List.set_cons_zero, List.set_cons_succ]
          refine wpAnyB_only (i := 1) (some 57) (Op.makeSlice 27 (Operand.const (Value.int IntKind.i64 8001)) (Operand.const (Value.int IntKind.i64 8001))) 27 ⟨_, rfl, rfl, rfl, rfl, rfl⟩ (by kernel_rfl) (fun K hK => ?_)
          unfold bareOp
          go_wp2_with fail
          have F_z := Lib.hid (hbig1 w129)
          replace F_r := Lib.hid (F_r.out.alloc BIG1)
          replace HBW := Lib.hid (HBW.out.alloc HBW.out.size BIG1)
          generalize w129.alloc BIG1 = w130 at F_z HBW F_r ⊢
          refine hK.out _ _ (fun _ => trivial) ?_
          clear hK K
          try simp only [Act.put, List.setIfInBounds_toArray, List.set_cons_zero, List.set_cons_succ]
          refine wpAnyB_only (i := 2) (some 58) (Op.call { callee := Callee.value (Operand.func 21), args := #[Operand.tmp 56, Operand.const (Value.int IntKind.u64 18), Operand.const (Value.int IntKind.i64 1), Operand.const (Value.int IntKind.u64 1), Operand.const (Value.int IntKind.u64 1), Operand.const (Value.int IntKind.u64 1), Operand.const (Value.int IntKind.u64 1), Operand.tmp 57], argTypes := #[24, 22, 3, 22, 22, 22, 22, 27] }) 55 ⟨_, rfl, rfl, rfl, rfl, rfl⟩ (by kernel_rfl) (fun K hK => ?_)
          unfold bareOp
          go_wp2_with (go_at_call 21; refine (pbitProve_any _ ⟨HT.out.below HBW.out, F_z.out, HZ1.out⟩ (by decide) (by decide) (by decide) (by decide) (by decide) (by decide) (by decide) (by decide) (by decide) (bpLong Z1)).mono ?_; rintro e w131 ⟨rfl, hb131⟩)
          clear F_z
          replace F_r := Lib.hid (F_r.out.keep hb131)
          replace HBW := Lib.hid (HBW.out.trans (hb131.mono HBW.out.size))
          clear hb131
          refine hK.out _ _ (fun h => absurd (h.symm.trans (by kernel_rfl : _ = true)) (by decide)) ?_
          clear hK K
          try simp only [Act.put, List.setIfInBounds_toArray, List.set_cons_zero, List.set_cons_succ]
          refine wpAnyB_takeP (i := 3) (some 55) (Op.move (Operand.tmp 58)) 55 (v := ?_) ⟨_, rfl, rfl, rfl, rfl, rfl⟩ (by kernel_rfl) (by kernel_rfl) (by kernel_rfl) (by kernel_rfl) (fun _ _ _ h => h) (fun h => absurd (h.symm.trans (by kernel_rfl : _ = true)) (by decide)) (fun w' => ?_) ?_
          rotate_left
          · unfold bareOp
            go_simp
            try with_reducible rfl
          simp only [Act.put, List.setIfInBounds_toArray, List.set_cons_zero, List.set_cons_succ]
          refine wpAnyB_takeP (i := 4) (some 59) (Op.extract (Operand.tmp 55) 0) 54 (v := ?_) ⟨_, rfl, rfl, rfl, rfl, rfl⟩ (by kernel_rfl) (by kernel_rfl) (by kernel_rfl) (by kernel_rfl) (fun _ _ _ h => h) (fun h => absurd (h.symm.trans (by kernel_rfl : _ = true)) (by decide)) (fun w' => ?_) ?_
          rotate_left
          · unfold bareOp
            go_simp
            try with_reducible rfl
          simp only [Act.put, List.setIfInBounds_toArray, List.set_cons_zero, List.set_cons_succ]
          refine wpAnyB_takeP (i := 5) (some 60) (Op.extract (Operand.tmp 55) 1) 29 (v := ?_) ⟨_, rfl, rfl, rfl, rfl, rfl⟩ (by kernel_rfl) (by kernel_rfl) (by kernel_rfl) (by kernel_rfl) (fun _ _ _ h => h) (fun h => absurd (h.symm.trans (by kernel_rfl : _ = true)) (by decide)) (fun w' => ?_) ?_
          rotate_left
          · unfold bareOp
            go_simp
            try with_reducible rfl
          simp only [Act.put, List.setIfInBounds_toArray, List.set_cons_zero, List.set_cons_succ]
          refine wpAnyB_only (i := 7) none (Op.store 54 (Operand.tmp 12) (Operand.tmp 59)) 0 ⟨_, rfl, rfl, rfl, rfl, rfl⟩ (by kernel_rfl) (fun K hK => ?_)
          unfold bareOp
          obtain ⟨z0_, z1_, z2_, z3_, z4_, z5_, z6_, z7_, z8_, z9_, z10_, z11_, z12_, z13_, z14_, z15_⟩ := Arr.k8 F_r.out
          go_wp2_with fail
          clear z0_ z1_ z2_ z3_ z4_ z5_ z6_ z7_ z8_ z9_ z10_ z11_ z12_ z13_ z14_ z15_ F_r
          replace HBW := Lib.hid ((((((((HBW.out.setCell (p := ⟨w121.heap.size, 0, none⟩) hle (.int .u64 0)).setCell (p := ⟨w121.heap.size, 1, none⟩) hle (.int .u64 0)).setCell (p := ⟨w121.heap.size, 2, none⟩) hle (.int .u64 0)).setCell (p := ⟨w121.heap.size, 3, none⟩) hle (.int .u64 0)).setCell (p := ⟨w121.heap.size, 4, none⟩) hle (.int .u64 0)).setCell (p := ⟨w121.heap.size, 5, none⟩) hle (.int .u64 0)).setCell (p := ⟨w121.heap.size, 6, none⟩) hle (.int .u64 0)).setCell (p := ⟨w121.heap.size, 7, none⟩) hle (.int .u64 0))
          refine hK.out _ _ (fun h => absurd (h.symm.trans (by kernel_rfl : _ = true)) (by decide)) ?_
          clear hK K
          try simp only [Act.put, List.setIfInBounds_toArray, List.set_cons_zero, List.set_cons_succ]
          refine wpAnyB_takeP (i := 8) (some 13) (Op.assign (Operand.tmp 60)) 29 (v := ?_) ⟨_, rfl, rfl, rfl, rfl, rfl⟩ (by kernel_rfl) (by kernel_rfl) (by kernel_rfl) (by kernel_rfl) (fun _ _ _ h => h) (fun h => absurd (h.symm.trans (by kernel_rfl : _ = true)) (by decide)) (fun w' => ?_) ?_
          rotate_left
          · unfold bareOp
            go_simp
            try with_reducible rfl
          simp only [Act.put, List.setIfInBounds_toArray, List.set_cons_zero, List.set_cons_succ]
          refine wpAnyB_done (by kernel_rfl) ?_ _
          go_wp2_with fail
          go_meet
          case rel => exact ⟨rfl, HBW⟩
      · skip
        unfold bareOp
        go_wp2_with fail
        have F_z := Lib.hid (hbig1 wd7)
        replace HBW := Lib.hid (HBW.out.alloc HBW.out.size BIG1)
        generalize wd7.alloc BIG1 = w133 at F_z HBW ⊢
        refine hK.out _ _ (fun _ => trivial) ?_
        clear hK K
        try simp only [Act.put, List.setIfInBounds_toArray, List.set_cons_zero, List.set_cons_succ]
        refine wpAnyB_two (i := 0) (j := 6) (some 56) (Op.call { callee := Callee.value (Operand.func 28), args := #[], argTypes := #[] }) 24 (some 12) (Op.alloc 54) 0 ⟨_, rfl, rfl, rfl, rfl, rfl⟩ ⟨_, rfl, rfl, rfl, rfl, rfl⟩ (by kernel_rfl) (fun K hK => ?_) (fun K hK => ?_)
        · skip
          unfold bareOp
          go_wp2_with (go_at_call 28; refine (small_any _).mono ?_; rintro e w134 ⟨rfl, hb134⟩)
          replace F_z := Lib.hid (F_z.out.keep hb134)
          replace HBW := Lib.hid (HBW.out.trans (hb134.mono HBW.out.size))
          clear hb134
          refine hK.out _ _ (fun _ => trivial) ?_
          clear hK K
          try simp only [Act.put, List.setIfInBounds_toArray, List.set_cons_zero, List.set_cons_succ]
          refine wpAnyB_two (i := 2) (j := 6) (some 58) (Op.call { callee := Callee.value (Operand.func 21), args := #[Operand.tmp 56, Operand.const (Value.int IntKind.u64 18), Operand.const (Value.int IntKind.i64 1), Operand.const (Value.int IntKind.u64 1), Operand.const (Value.int IntKind.u64 1), Operand.const (Value.int IntKind.u64 1), Operand.const (Value.int IntKind.u64 1), Operand.tmp 57], argTypes := #[24, 22, 3, 22, 22, 22, 22, 27] }) 55 (some 12) (Op.alloc 54) 0 ⟨_, rfl, rfl, rfl, rfl, rfl⟩ ⟨_, rfl, rfl, rfl, rfl, rfl⟩ (by kernel_rfl) (fun K hK => ?_) (fun K hK => ?_)
          · skip
            unfold bareOp
            go_wp2_with (go_at_call 21; refine (pbitProve_any _ ⟨HT.out.below HBW.out, F_z.out, HZ1.out⟩ (by decide) (by decide) (by decide) (by decide) (by decide) (by decide) (by decide) (by decide) (by decide) (bpLong Z1)).mono ?_; rintro e w135 ⟨rfl, hb135⟩)
            clear F_z
            replace HBW := Lib.hid (HBW.out.trans (hb135.mono HBW.out.size))
            clear hb135
            refine hK.out _ _ (fun h => absurd (h.symm.trans (by kernel_rfl : _ = true)) (by decide)) ?_
            clear hK K
            try simp only [Act.put, List.setIfInBounds_toArray, List.set_cons_zero, List.set_cons_succ]
            refine wpAnyB_takeP (i := 3) (some 55) (Op.move (Operand.tmp 58)) 55 (v := ?_) ⟨_, rfl, rfl, rfl, rfl, rfl⟩ (by kernel_rfl) (by kernel_rfl) (by kernel_rfl) (by kernel_rfl) (fun _ _ _ h => h) (fun h => absurd (h.symm.trans (by kernel_rfl : _ = true)) (by decide)) (fun w' => ?_) ?_
            rotate_left
            · unfold bareOp
              go_simp
              try with_reducible rfl
            simp only [Act.put, List.setIfInBounds_toArray, List.set_cons_zero, List.set_cons_succ]
            refine wpAnyB_takeP (i := 4) (some 59) (Op.extract (Operand.tmp 55) 0) 54 (v := ?_) ⟨_, rfl, rfl, rfl, rfl, rfl⟩ (by kernel_rfl) (by kernel_rfl) (by kernel_rfl) (by kernel_rfl) (fun _ _ _ h => h) (fun h => absurd (h.symm.trans (by kernel_rfl : _ = true)) (by decide)) (fun w' => ?_) ?_
            rotate_left
            · unfold bareOp
              go_simp
              try with_reducible rfl
            simp only [Act.put, List.setIfInBounds_toArray, List.set_cons_zero, List.set_cons_succ]
            refine wpAnyB_takeP (i := 5) (some 60) (Op.extract (Operand.tmp 55) 1) 29 (v := ?_) ⟨_, rfl, rfl, rfl, rfl, rfl⟩ (by kernel_rfl) (by kernel_rfl) (by kernel_rfl) (by kernel_rfl) (fun _ _ _ h => h) (fun h => absurd (h.symm.trans (by kernel_rfl : _ = true)) (by decide)) (fun w' => ?_) ?_
            rotate_left
            · unfold bareOp
              go_simp
              try with_reducible rfl
            simp only [Act.put, List.setIfInBounds_toArray, List.set_cons_zero, List.set_cons_succ]
            refine wpAnyB_only (i := 6) (some 12) (Op.alloc 54) 0 ⟨_, rfl, rfl, rfl, rfl, rfl⟩ (by kernel_rfl) (fun K hK => ?_)
            unfold bareOp
            go_wp2_with fail
            have F_r := Lib.hid (show Arr .u64 (w135.alloc (.cells #[.int .u64 0, .int .u64 0, .int .u64 0, .int .u64 0, .int .u64 0, .int .u64 0, .int .u64 0, .int .u64 0] 54)) w135.heap.size [0, 0, 0, 0, 0, 0, 0, 0] from Arr.new .u64 w135 [0, 0, 0, 0, 0, 0, 0, 0] _ _ rfl)
            have hle := HBW.out.size
            replace HBW := Lib.hid (HBW.out.alloc HBW.out.size (.cells #[.int .u64 0, .int .u64 0, .int .u64 0, .int .u64 0, .int .u64 0, .int .u64 0, .int .u64 0, .int .u64 0] 54))
            generalize w135.alloc (.cells #[.int .u64 0, .int .u64 0, .int .u64 0, .int .u64 0, .int .u64 0, .int .u64 0, .int .u64 0, .int .u64 0] 54) = w136 at F_r HBW ⊢
            refine hK.out _ _ (fun h => absurd (h.symm.trans (by kernel_rfl : _ = true)) (by decide)) ?_
            clear hK K
            try simp only [Act.put, List.setIfInBounds_toArray, List.set_cons_zero, List.set_cons_succ]
            refine wpAnyB_only (i := 7) none (Op.store 54 (Operand.tmp 12) (Operand.tmp 59)) 0 ⟨_, rfl, rfl, rfl, rfl, rfl⟩ (by kernel_rfl) (fun K hK => ?_)
            unfold bareOp
            obtain ⟨z0_, z1_, z2_, z3_, z4_, z5_, z6_, z7_, z8_, z9_, z10_, z11_, z12_, z13_, z14_, z15_⟩ := Arr.k8 F_r.out
            go_wp2_with fail
            clear z0_ z1_ z2_ z3_ z4_ z5_ z6_ z7_ z8_ z9_ z10_ z11_ z12_ z13_ z14_ z15_ F_r
            replace HBW := Lib.hid ((((((((HBW.out.setCell (p := ⟨w135.heap.size, 0, none⟩) hle (.int .u64 0)).setCell (p := ⟨w135.heap.size, 1, none⟩) hle (.int .u64 0)).setCell (p := ⟨w135.heap.size, 2, none⟩) hle (.int .u64 0)).setCell (p := ⟨w135.heap.size, 3, none⟩) hle (.int .u64 0)).setCell (p := ⟨w135.heap.size, 4, none⟩) hle (.int .u64 0)).setCell (p := ⟨w135.heap.size, 5, none⟩) hle (.int .u64 0)).setCell (p := ⟨w135.heap.size, 6, none⟩) hle (.int .u64 0)).setCell (p := ⟨w135.heap.size, 7, none⟩) hle (.int .u64 0))
            refine hK.out _ _ (fun h => absurd (h.symm.trans (by kernel_rfl : _ = true)) (by decide)) ?_
            clear hK K
            try simp only [Act.put, List.setIfInBounds_toArray, List.set_cons_zero, List.set_cons_succ]
            refine wpAnyB_takeP (i := 8) (some 13) (Op.assign (Operand.tmp 60)) 29 (v := ?_) ⟨_, rfl, rfl, rfl, rfl, rfl⟩ (by kernel_rfl) (by kernel_rfl) (by kernel_rfl) (by kernel_rfl) (fun _ _ _ h => h) (fun h => absurd (h.symm.trans (by kernel_rfl : _ = true)) (by decide)) (fun w' => ?_) ?_
            rotate_left
            · unfold bareOp
              go_simp
              try with_reducible rfl
            simp only [Act.put, List.setIfInBounds_toArray, List.set_cons_zero, List.set_cons_succ]
            refine wpAnyB_done (by kernel_rfl) ?_ _
            go_wp2_with fail
            go_meet
            case rel => exact ⟨rfl, HBW⟩
          · skip
            unfold bareOp
            go_wp2_with fail
            have F_r := Lib.hid (show Arr .u64 (w134.alloc (.cells #[.int .u64 0, .int .u64 0, .int .u64 0, .int .u64 0, .int .u64 0, .int .u64 0, .int .u64 0, .int .u64 0] 54)) w134.heap.size [0, 0, 0, 0, 0, 0, 0, 0] from Arr.new .u64 w134 [0, 0, 0, 0, 0, 0, 0, 0] _ _ rfl)
            have hle := HBW.out.size
            replace F_z := Lib.hid (F_z.out.keep ((Below.refl _ _).alloc (Nat.le_refl _) (.cells #[.int .u64 0, .int .u64 0, .int .u64 0, .int .u64 0, .int .u64 0, .int .u64 0, .int .u64 0, .int .u64 0] 54)))
            replace HBW := Lib.hid (HBW.out.alloc HBW.out.size (.cells #[.int .u64 0, .int .u64 0, .int .u64 0, .int .u64 0, .int .u64 0, .int .u64 0, .int .u64 0, .int .u64 0] 54))
            generalize w134.alloc (.cells #[.int .u64 0, .int .u64 0, .int .u64 0, .int .u64 0, .int .u64 0, .int .u64 0, .int .u64 0, .int .u64 0] 54) = w138 at F_r HBW F_z ⊢
            refine hK.out _ _ (fun _ => trivial) ?_
            clear hK K
            try simp only [Act.put, List.setIfInBounds_toArray, List.set_cons_zero, List.set_cons_succ]
            refine wpAnyB_only (i := 2) (some 58) (Op.call { callee := Callee.value (Operand.func 21), args := #[Operand.tmp 56, Operand.const (Value.int IntKind.u64 18), Operand.const (Value.int IntKind.i64 1), Operand.const (Value.int IntKind.u64 1), Operand.const (Value.int IntKind.u64 1), Operand.const (Value.int IntKind.u64 1), Operand.const (Value.int IntKind.u64 1), Operand.tmp 57], argTypes := #[24, 22, 3, 22, 22, 22, 22, 27] }) 55 ⟨_, rfl, rfl, rfl, rfl, rfl⟩ (by kernel_rfl) (fun K hK => ?_)
            unfold bareOp
            go_wp2_with (go_at_call 21; refine (pbitProve_any _ ⟨HT.out.below HBW.out, F_z.out, HZ1.out⟩ (by decide) (by decide) (by decide) (by decide) (by decide) (by decide) (by decide) (by decide) (by decide) (bpLong Z1)).mono ?_; rintro e w139 ⟨rfl, hb139⟩)
            clear F_z
            replace F_r := Lib.hid (F_r.out.keep hb139)
            replace HBW := Lib.hid (HBW.out.trans (hb139.mono HBW.out.size))
            clear hb139
            refine hK.out _ _ (fun h => absurd (h.symm.trans (by kernel_rfl : _ = true)) (by decide)) ?_
            clear hK K
            try simp only [Act.put, List.setIfInBounds_toArray, List.set_cons_zero, List.set_cons_succ]
            refine wpAnyB_takeP (i := 3) (some 55) (Op.move (Operand.tmp 58)) 55 (v := ?_) ⟨_, rfl, rfl, rfl, rfl, rfl⟩ (by kernel_rfl) (by kernel_rfl) (by kernel_rfl) (by kernel_rfl) (fun _ _ _ h => h) (fun h => absurd (h.symm.trans (by kernel_rfl : _ = true)) (by decide)) (fun w' => ?_) ?_
            rotate_left
            · unfold bareOp
              go_simp
              try with_reducible rfl
            simp only [Act.put, List.setIfInBounds_toArray, List.set_cons_zero, List.set_cons_succ]
            refine wpAnyB_takeP (i := 4) (some 59) (Op.extract (Operand.tmp 55) 0) 54 (v := ?_) ⟨_, rfl, rfl, rfl, rfl, rfl⟩ (by kernel_rfl) (by kernel_rfl) (by kernel_rfl) (by kernel_rfl) (fun _ _ _ h => h) (fun h => absurd (h.symm.trans (by kernel_rfl : _ = true)) (by decide)) (fun w' => ?_) ?_
            rotate_left
            · unfold bareOp
              go_simp
              try with_reducible rfl
            simp only [Act.put, List.setIfInBounds_toArray, List.set_cons_zero, List.set_cons_succ]
            refine wpAnyB_takeP (i := 5) (some 60) (Op.extract (Operand.tmp 55) 1) 29 (v := ?_) ⟨_, rfl, rfl, rfl, rfl, rfl⟩ (by kernel_rfl) (by kernel_rfl) (by kernel_rfl) (by kernel_rfl) (fun _ _ _ h => h) (fun h => absurd (h.symm.trans (by kernel_rfl : _ = true)) (by decide)) (fun w' => ?_) ?_
            rotate_left
            · unfold bareOp
              go_simp
              try with_reducible rfl
            simp only [Act.put, List.setIfInBounds_toArray, List.set_cons_zero, List.set_cons_succ]
            refine wpAnyB_only (i := 7) none (Op.store 54 (Operand.tmp 12) (Operand.tmp 59)) 0 ⟨_, rfl, rfl, rfl, rfl, rfl⟩ (by kernel_rfl) (fun K hK => ?_)
            unfold bareOp
            obtain ⟨z0_, z1_, z2_, z3_, z4_, z5_, z6_, z7_, z8_, z9_, z10_, z11_, z12_, z13_, z14_, z15_⟩ := Arr.k8 F_r.out
            go_wp2_with fail
            clear z0_ z1_ z2_ z3_ z4_ z5_ z6_ z7_ z8_ z9_ z10_ z11_ z12_ z13_ z14_ z15_ F_r
            replace HBW := Lib.hid ((((((((HBW.out.setCell (p := ⟨w134.heap.size, 0, none⟩) hle (.int .u64 0)).setCell (p := ⟨w134.heap.size, 1, none⟩) hle (.int .u64 0)).setCell (p := ⟨w134.heap.size, 2, none⟩) hle (.int .u64 0)).setCell (p := ⟨w134.heap.size, 3, none⟩) hle (.int .u64 0)).setCell (p := ⟨w134.heap.size, 4, none⟩) hle (.int .u64 0)).setCell (p := ⟨w134.heap.size, 5, none⟩) hle (.int .u64 0)).setCell (p := ⟨w134.heap.size, 6, none⟩) hle (.int .u64 0)).setCell (p := ⟨w134.heap.size, 7, none⟩) hle (.int .u64 0))
            refine hK.out _ _ (fun h => absurd (h.symm.trans (by kernel_rfl : _ = true)) (by decide)) ?_
            clear hK K
            try simp only [Act.put, List.setIfInBounds_toArray, List.set_cons_zero, List.set_cons_succ]
            refine wpAnyB_takeP (i := 8) (some 13) (Op.assign (Operand.tmp 60)) 29 (v := ?_) ⟨_, rfl, rfl, rfl, rfl, rfl⟩ (by kernel_rfl) (by kernel_rfl) (by kernel_rfl) (by kernel_rfl) (fun _ _ _ h => h) (fun h => absurd (h.symm.trans (by kernel_rfl : _ = true)) (by decide)) (fun w' => ?_) ?_
            rotate_left
            · unfold bareOp
              go_simp
              try with_reducible rfl
            simp only [Act.put, List.setIfInBounds_toArray, List.set_cons_zero, List.set_cons_succ]
            refine wpAnyB_done (by kernel_rfl) ?_ _
            go_wp2_with fail
            go_meet
            case rel => exact ⟨rfl, HBW⟩
        · skip
          unfold bareOp
          go_wp2_with fail
          have F_r := Lib.hid (show Arr .u64 (w133.alloc (.cells #[.int .u64 0, .int .u64 0, .int .u64 0, .int .u64 0, .int .u64 0, .int .u64 0, .int .u64 0, .int .u64 0] 54)) w133.heap.size [0, 0, 0, 0, 0, 0, 0, 0] from Arr.new .u64 w133 [0, 0, 0, 0, 0, 0, 0, 0] _ _ rfl)
          have hle := HBW.out.size
          replace F_z := Lib.hid (F_z.out.keep ((Below.refl _ _).alloc (Nat.le_refl _) (.cells #[.int .u64 0, .int .u64 0, .int .u64 0, .int .u64 0, .int .u64 0, .int .u64 0, .int .u64 0, .int .u64 0] 54)))
          replace HBW := Lib.hid (HBW.out.alloc HBW.out.size (.cells #[.int .u64 0, .int .u64 0, .int .u64 0, .int .u64 0, .int .u64 0, .int .u64 0, .int .u64 0, .int .u64 0] 54))
          generalize w133.alloc (.cells #[.int .u64 0, .int .u64 0, .int .u64 0, .int .u64 0, .int .u64 0, .int .u64 0, .int .u64 0, .int .u64 0] 54) = w141 at F_r HBW F_z ⊢
          refine hK.out _ _ (fun _ => trivial) ?_
          clear hK K
          try simp only [Act.put, List.setIfInBounds_toArray, List.set_cons_zero, List.set_cons_succ]
          refine wpAnyB_only (i := 0) (some 56) (Op.call { callee := Callee.value (Operand.func 28), args := #[], argTypes := #[] }) 24 ⟨_, rfl, rfl, rfl, rfl, rfl⟩ (by kernel_rfl) (fun K hK => ?_)
          unfold bareOp
          go_wp2_with (go_at_call 28; refine (small_any _).mono ?_; rintro e w142 ⟨rfl, hb142⟩)
          replace F_z := Lib.hid (F_z.out.keep hb142)
          replace F_r := Lib.hid (F_r.out.keep hb142)
          replace HBW := Lib.hid (HBW.out.trans (hb142.mono HBW.out.size))
          clear hb142
          refine hK.out _ _ (fun _ => trivial) ?_
          clear hK K
          try simp only [Act.put, List.setIfInBounds_toArray, List.set_cons_zero, List.set_cons_succ]
          refine wpAnyB_only (i := 2) (some 58) (Op.call { callee := Callee.value (Operand.func 21), args := #[Operand.tmp 56, Operand.const (Value.int IntKind.u64 18), Operand.const (Value.int IntKind.i64 1), Operand.const (Value.int IntKind.u64 1), Operand.const (Value.int IntKind.u64 1), Operand.const (Value.int IntKind.u64 1), Operand.const (Value.int IntKind.u64 1), Operand.tmp 57], argTypes := #[24, 22, 3, 22, 22, 22, 22, 27] }) 55 ⟨_, rfl, rfl, rfl, rfl, rfl⟩ (by kernel_rfl) (fun K hK => ?_)
          unfold bareOp
          go_wp2_with (go_at_call 21; refine (pbitProve_any _ ⟨HT.out.below HBW.out, F_z.out, HZ1.out⟩ (by decide) (by decide) (by decide) (by decide) (by decide) (by decide) (by decide) (by decide) (by decide) (bpLong Z1)).mono ?_; rintro e w143 ⟨rfl, hb143⟩)
          clear F_z
          replace F_r := Lib.hid (F_r.out.keep hb143)
          replace HBW := Lib.hid (HBW.out.trans (hb143.mono HBW.out.size))
          clear hb143
          refine hK.out _ _ (fun h => absurd (h.symm.trans (by kernel_rfl : _ = true)) (by decide)) ?_
          clear hK K
          try simp only [Act.put, List.setIfInBounds_toArray, List.set_cons_zero, List.set_cons_succ]
          refine wpAnyB_takeP (i := 3) (some 55) (Op.move (Operand.tmp 58)) 55 (v := ?_) ⟨_, rfl, rfl, rfl, rfl, rfl⟩ (by kernel_rfl) (by kernel_rfl) (by kernel_rfl) (by kernel_rfl) (fun _ _ _ h => h) (fun h => absurd (h.symm.trans (by kernel_rfl : _ = true)) (by decide)) (fun w' => ?_) ?_
          rotate_left
          · unfold bareOp
            go_simp
            try with_reducible rfl
          simp only [Act.put, List.setIfInBounds_toArray, List.set_cons_zero, List.set_cons_succ]
          refine wpAnyB_takeP (i := 4) (some 59) (Op.extract (Operand.tmp 55) 0) 54 (v := ?_) ⟨_, rfl, rfl, rfl, rfl, rfl⟩ (by kernel_rfl) (by kernel_rfl) (by kernel_rfl) (by kernel_rfl) (fun _ _ _ h => h) (fun h => absurd (h.symm.trans (by kernel_rfl : _ = true)) (by decide)) (fun w' => ?_) ?_
          rotate_left
          · unfold bareOp
            go_simp
            try with_reducible rfl
          simp only [Act.put, List.setIfInBounds_toArray, List.set_cons_zero, List.set_cons_succ]
          refine wpAnyB_takeP (i := 5) (some 60) (Op.extract (Operand.tmp 55) 1) 29 (v := ?_) ⟨_, rfl, rfl, rfl, rfl, rfl⟩ (by kernel_rfl) (by kernel_rfl) (by kernel_rfl) (by kernel_rfl) (fun _ _ _ h => h) (fun h => absurd (h.symm.trans (by kernel_rfl : _ = true)) (by decide)) (fun w' => ?_) ?_
          rotate_left
          · unfold bareOp
            go_simp
            try with_reducible rfl
          simp only [Act.put, List.setIfInBounds_toArray, List.set_cons_zero, List.set_cons_succ]
          refine wpAnyB_only (i := 7) none (Op.store 54 (Operand.tmp 12) (Operand.tmp 59)) 0 ⟨_, rfl, rfl, rfl, rfl, rfl⟩ (by kernel_rfl) (fun K hK => ?_)
          unfold bareOp
          obtain ⟨z0_, z1_, z2_, z3_, z4_, z5_, z6_, z7_, z8_, z9_, z10_, z11_, z12_, z13_, z14_, z15_⟩ := Arr.k8 F_r.out
          go_wp2_with fail
          clear z0_ z1_ z2_ z3_ z4_ z5_ z6_ z7_ z8_ z9_ z10_ z11_ z12_ z13_ z14_ z15_ F_r
          replace HBW := Lib.hid ((((((((HBW.out.setCell (p := ⟨w133.heap.size, 0, none⟩) hle (.int .u64 0)).setCell (p := ⟨w133.heap.size, 1, none⟩) hle (.int .u64 0)).setCell (p := ⟨w133.heap.size, 2, none⟩) hle (.int .u64 0)).setCell (p := ⟨w133.heap.size, 3, none⟩) hle (.int .u64 0)).setCell (p := ⟨w133.heap.size, 4, none⟩) hle (.int .u64 0)).setCell (p := ⟨w133.heap.size, 5, none⟩) hle (.int .u64 0)).setCell (p := ⟨w133.heap.size, 6, none⟩) hle (.int .u64 0)).setCell (p := ⟨w133.heap.size, 7, none⟩) hle (.int .u64 0))
          refine hK.out _ _ (fun h => absurd (h.symm.trans (by kernel_rfl : _ = true)) (by decide)) ?_
          clear hK K
          try simp only [Act.put, List.setIfInBounds_toArray, List.set_cons_zero, List.set_cons_succ]
          refine wpAnyB_takeP (i := 8) (some 13) (Op.assign (Operand.tmp 60)) 29 (v := ?_) ⟨_, rfl, rfl, rfl, rfl, rfl⟩ (by kernel_rfl) (by kernel_rfl) (by kernel_rfl) (by kernel_rfl) (fun _ _ _ h => h) (fun h => absurd (h.symm.trans (by kernel_rfl : _ = true)) (by decide)) (fun w' => ?_) ?_
          rotate_left
          · unfold bareOp
            go_simp
            try with_reducible rfl
          simp only [Act.put, List.setIfInBounds_toArray, List.set_cons_zero, List.set_cons_succ]
          refine wpAnyB_done (by kernel_rfl) ?_ _
          go_wp2_with fail
          go_meet
          case rel => exact ⟨rfl, HBW⟩
      · skip
        unfold bareOp
        go_wp2_with fail
        have F_r := Lib.hid (show Arr .u64 (wd7.alloc (.cells #[.int .u64 0, .int .u64 0, .int .u64 0, .int .u64 0, .int .u64 0, .int .u64 0, .int .u64 0, .int .u64 0] 54)) wd7.heap.size [0, 0, 0, 0, 0, 0, 0, 0] from Arr.new .u64 wd7 [0, 0, 0, 0, 0, 0, 0, 0] _ _ rfl)
        have hle := HBW.out.size
        replace HBW := Lib.hid (HBW.out.alloc HBW.out.size (.cells #[.int .u64 0, .int .u64 0, .int .u64 0, .int .u64 0, .int .u64 0, .int .u64 0, .int .u64 0, .int .u64 0] 54))
        generalize wd7.alloc (.cells #[.int .u64 0, .int .u64 0, .int .u64 0, .int .u64 0, .int .u64 0, .int .u64 0, .int .u64 0, .int .u64 0] 54) = w145 at F_r HBW ⊢
        refine hK.out _ _ (fun _ => trivial) ?_
        clear hK K
        try simp only [Act.put, List.setIfInBounds_toArray, List.set_cons_zero, List.set_cons_succ]
        refine wpAnyB_two (i := 0) (j := 1) (some 56) (Op.call { callee := Callee.value (Operand.func 28), args := #[], argTypes := #[] }) 24 (some 57) (Op.makeSlice 27 (Operand.const (Value.int IntKind.i64 8001)) (Operand.const (Value.int IntKind.i64 8001))) 27 ⟨_, rfl, rfl, rfl, rfl, rfl⟩ ⟨_, rfl, rfl, rfl, rfl, rfl⟩ (by kernel_rfl) (fun K hK => ?_) (fun K hK => ?_)
        · skip
          unfold bareOp
          go_wp2_with (go_at_call 28; refine (small_any _).mono ?_; rintro e w146 ⟨rfl, hb146⟩)
          replace F_r := Lib.hid (F_r.out.keep hb146)
          replace HBW := Lib.hid (HBW.out.trans (hb146.mono HBW.out.size))
          clear hb146
          refine hK.out _ _ (fun _ => trivial) ?_
          clear hK K
          try simp only [Act.put, List.setIfInBounds_toArray, List.set_cons_zero, List.set_cons_succ]
          refine wpAnyB_only (i := 1) (some 57) (Op.makeSlice 27 (Operand.const (Value.int IntKind.i64 8001)) (Operand.const (Value.int IntKind.i64 8001))) 27 ⟨_, rfl, rfl, rfl, rfl, rfl⟩ (by kernel_rfl) (fun K hK => ?_)
          unfold bareOp
          go_wp2_with fail
          have F_z := Lib.hid (hbig1 w146)
          replace F_r := Lib.hid (F_r.out.alloc BIG1)
          replace HBW := Lib.hid (HBW.out.alloc HBW.out.size BIG1)
          generalize w146.alloc BIG1 = w147 at F_z HBW F_r ⊢
          refine hK.out _ _ (fun _ => trivial) ?_
          clear hK K
          try simp only [Act.put, List.setIfInBounds_toArray, List.set_cons_zero, List.set_cons_succ]
          refine wpAnyB_only (i := 2) (some 58) (Op.call { callee := Callee.value (Operand.func 21), args := #[Operand.tmp 56, Operand.const (Value.int IntKind.u64 18), Operand.const (Value.int IntKind.i64 1), Operand.const (Value.int IntKind.u64 1), Operand.const (Value.int IntKind.u64 1), Operand.const (Value.int IntKind.u64 1), Operand.const (Value.int IntKind.u64 1), Operand.tmp 57], argTypes := #[24, 22, 3, 22, 22, 22, 22, 27] }) 55 ⟨_, rfl, rfl, rfl, rfl, rfl⟩ (by kernel_rfl) (fun K hK => ?_)
          unfold bareOp
          go_wp2_with (go_at_call 21; refine (pbitProve_any _ ⟨HT.out.below HBW.out, F_z.out, HZ1.out⟩ (by decide) (by decide) (by decide) (by decide) (by decide) (by decide) (by decide) (by decide) (by decide) (bpLong Z1)).mono ?_; rintro e w148 ⟨rfl, hb148⟩)
          clear F_z
          replace F_r := Lib.hid (F_r.out.keep hb148)
          replace HBW := Lib.hid (HBW.out.trans (hb148.mono HBW.out.size))
          clear hb148
          refine hK.out _ _ (fun h => absurd (h.symm.trans (by kernel_rfl : _ = true)) (by decide)) ?_
          clear hK K
          try simp only [Act.put, List.setIfInBounds_toArray, List.set_cons_zero, List.set_cons_succ]
          refine wpAnyB_takeP (i := 3) (some 55) (Op.move (Operand.tmp 58)) 55 (v := ?_) ⟨_, rfl, rfl, rfl, rfl, rfl⟩ (by kernel_rfl) (by kernel_rfl) (by kernel_rfl) (by kernel_rfl) (fun _ _ _ h => h) (fun h => absurd (h.symm.trans (by kernel_rfl : _ = true)) (by decide)) (fun w' => ?_) ?_
          rotate_left
          · unfold bareOp
            go_simp
            try with_reducible rfl
          simp only [Act.put, List.setIfInBounds_toArray, List.set_cons_zero, List.set_cons_succ]
          refine wpAnyB_takeP (i := 4) (some 59) (Op.extract (Operand.tmp 55) 0) 54 (v := ?_) ⟨_, rfl, rfl, rfl, rfl, rfl⟩ (by kernel_rfl) (by kernel_rfl) (by kernel_rfl) (by kernel_rfl) (fun _ _ _ h => h) (fun h => absurd (h.symm.trans (by kernel_rfl : _ = true)) (by decide)) (fun w' => ?_) ?_
          rotate_left
          · unfold bareOp
            go_simp
            try with_reducible rfl
          simp only [Act.put, List.setIfInBounds_toArray, List.set_cons_zero, List.set_cons_succ]
          refine wpAnyB_takeP (i := 5) (some 60) (Op.extract (Operand.tmp 55) 1) 29 (v := ?_) ⟨_, rfl, rfl, rfl, rfl, rfl⟩ (by kernel_rfl) (by kernel_rfl) (by kernel_rfl) (by kernel_rfl) (fun _ _ _ h => h) (fun h => absurd (h.symm.trans (by kernel_rfl : _ = true)) (by decide)) (fun w' => ?_) ?_
          rotate_left
          · unfold bareOp
            go_simp
            try with_reducible rfl
          simp only [Act.put, List.setIfInBounds_toArray, List.set_cons_zero, List.set_cons_succ]
          refine wpAnyB_only (i := 7) none (Op.store 54 (Operand.tmp 12) (Operand.tmp 59)) 0 ⟨_, rfl, rfl, rfl, rfl, rfl⟩ (by kernel_rfl) (fun K hK => ?_)
          unfold bareOp
          obtain ⟨z0_, z1_, z2_, z3_, z4_, z5_, z6_, z7_, z8_, z9_, z10_, z11_, z12_, z13_, z14_, z15_⟩ := Arr.k8 F_r.out
          go_wp2_with fail
          clear z0_ z1_ z2_ z3_ z4_ z5_ z6_ z7_ z8_ z9_ z10_ z11_ z12_ z13_ z14_ z15_ F_r
          replace HBW := Lib.hid ((((((((HBW.out.setCell (p := ⟨wd7.heap.size, 0, none⟩) hle (.int .u64 0)).setCell (p := ⟨wd7.heap.size, 1, none⟩) hle (.int .u64 0)).setCell (p := ⟨wd7.heap.size, 2, none⟩) hle (.int .u64 0)).setCell (p := ⟨wd7.heap.size, 3, none⟩) hle (.int .u64 0)).setCell (p := ⟨wd7.heap.size, 4, none⟩) hle (.int .u64 0)).setCell (p := ⟨wd7.heap.size, 5, none⟩) hle (.int .u64 0)).setCell (p := ⟨wd7.heap.size, 6, none⟩) hle (.int .u64 0)).setCell (p := ⟨wd7.heap.size, 7, none⟩) hle (.int .u64 0))
          refine hK.out _ _ (fun h => absurd (h.symm.trans (by kernel_rfl : _ = true)) (by decide)) ?_
          clear hK K
          try simp only [Act.put, List.setIfInBounds_toArray, List.set_cons_zero, List.set_cons_succ]
          refine wpAnyB_takeP (i := 8) (some 13) (Op.assign (Operand.tmp 60)) 29 (v := ?_) ⟨_, rfl, rfl, rfl, rfl, rfl⟩ (by kernel_rfl) (by kernel_rfl) (by kernel_rfl) (by kernel_rfl) (fun _ _ _ h => h) (fun h => absurd (h.symm.trans (by kernel_rfl : _ = true)) (by decide)) (fun w' => ?_) ?_
          rotate_left
          · unfold bareOp
            go_simp
            try with_reducible rfl
          simp only [Act.put, List.setIfInBounds_toArray, List.set_cons_zero, List.set_cons_succ]
          refine wpAnyB_done (by kernel_rfl) ?_ _
          go_wp2_with fail
          go_meet
          case rel => exact ⟨rfl, HBW⟩
        · skip
          unfold bareOp
          go_wp2_with fail
          have F_z := Lib.hid (hbig1 w145)
          replace F_r := Lib.hid (F_r.out.alloc BIG1)
          replace HBW := Lib.hid (HBW.out.alloc HBW.out.size BIG1)
          generalize w145.alloc BIG1 = w150 at F_z HBW F_r ⊢
          refine hK.out _ _ (fun _ => trivial) ?_
          clear hK K
          try simp only [Act.put, List.setIfInBounds_toArray, List.set_cons_zero, List.set_cons_succ]
          refine wpAnyB_only (i := 0) (some 56) (Op.call { callee := Callee.value (Operand.func 28), args := #[], argTypes := #[] }) 24 ⟨_, rfl, rfl, rfl, rfl, rfl⟩ (by kernel_rfl) (fun K hK => ?_)
          unfold bareOp
          go_wp2_with (go_at_call 28; refine (small_any _).mono ?_; rintro e w151 ⟨rfl, hb151⟩)
          replace F_z := Lib.hid (F_z.out.keep hb151)
          replace F_r := Lib.hid (F_r.out.keep hb151)
          replace HBW := Lib.hid (HBW.out.trans (hb151.mono HBW.out.size))
          clear hb151
          refine hK.out _ _ (fun _ => trivial) ?_
          clear hK K
          try simp only [Act.put, List.setIfInBounds_toArray, List.set_cons_zero, List.set_cons_succ]
          refine wpAnyB_only (i := 2) (some 58) (Op.call { callee := Callee.value (Operand.func 21), args := #[Operand.tmp 56, Operand.const (Value.int IntKind.u64 18), Operand.const (Value.int IntKind.i64 1), Operand.const (Value.int IntKind.u64 1), Operand.const (Value.int IntKind.u64 1), Operand.const (Value.int IntKind.u64 1), Operand.const (Value.int IntKind.u64 1), Operand.tmp 57], argTypes := #[24, 22, 3, 22, 22, 22, 22, 27] }) 55 ⟨_, rfl, rfl, rfl, rfl, rfl⟩ (by kernel_rfl) (fun K hK => ?_)
          unfold bareOp
          go_wp2_with (go_at_call 21; refine (pbitProve_any _ ⟨HT.out.below HBW.out, F_z.out, HZ1.out⟩ (by decide) (by decide) (by decide) (by decide) (by decide) (by decide) (by decide) (by decide) (by decide) (bpLong Z1)).mono ?_; rintro e w152 ⟨rfl, hb152⟩)
          clear F_z
          replace F_r := Lib.hid (F_r.out.keep hb152)
          replace HBW := Lib.hid (HBW.out.trans (hb152.mono HBW.out.size))
          clear hb152
          refine hK.out _ _ (fun h => absurd (h.symm.trans (by kernel_rfl : _ = true)) (by decide)) ?_
          clear hK K
          try simp only [Act.put, List.setIfInBounds_toArray, List.set_cons_zero, List.set_cons_succ]
          refine wpAnyB_takeP (i := 3) (some 55) (Op.move (Operand.tmp 58)) 55 (v := ?_) ⟨_, rfl, rfl, rfl, rfl, rfl⟩ (by kernel_rfl) (by kernel_rfl) (by kernel_rfl) (by kernel_rfl) (fun _ _ _ h => h) (fun h => absurd (h.symm.trans (by kernel_rfl : _ = true)) (by decide)) (fun w' => ?_) ?_
          rotate_left
          · unfold bareOp
            go_simp
            try with_reducible rfl
          simp only [Act.put, List.setIfInBounds_toArray, List.set_cons_zero, List.set_cons_succ]
          refine wpAnyB_takeP (i := 4) (some 59) (Op.extract (Operand.tmp 55) 0) 54 (v := ?_) ⟨_, rfl, rfl, rfl, rfl, rfl⟩ (by kernel_rfl) (by kernel_rfl) (by kernel_rfl) (by kernel_rfl) (fun _ _ _ h => h) (fun h => absurd (h.symm.trans (by kernel_rfl : _ = true)) (by decide)) (fun w' => ?_) ?_
          rotate_left
          · unfold bareOp
            go_simp
            try with_reducible rfl
          simp only [Act.put, List.setIfInBounds_toArray, List.set_cons_zero, List.set_cons_succ]
          refine wpAnyB_takeP (i := 5) (some 60) (Op.extract (Operand.tmp 55) 1) 29 (v := ?_) ⟨_, rfl, rfl, rfl, rfl, rfl⟩ (by kernel_rfl) (by kernel_rfl) (by kernel_rfl) (by kernel_rfl) (fun _ _ _ h => h) (fun h => absurd (h.symm.trans (by kernel_rfl : _ = true)) (by decide)) (fun w' => ?_) ?_
          rotate_left
          · unfold bareOp
            go_simp
            try with_reducible rfl
          simp only [Act.put, List.setIfInBounds_toArray, List.set_cons_zero, List.set_cons_succ]
          refine wpAnyB_only (i := 7) none (Op.store 54 (Operand.tmp 12) (Operand.tmp 59)) 0 ⟨_, rfl, rfl, rfl, rfl, rfl⟩ (by kernel_rfl) (fun K hK => ?_)
          unfold bareOp
          obtain ⟨z0_, z1_, z2_, z3_, z4_, z5_, z6_, z7_, z8_, z9_, z10_, z11_, z12_, z13_, z14_, z15_⟩ := Arr.k8 F_r.out
          go_wp2_with fail
          clear z0_ z1_ z2_ z3_ z4_ z5_ z6_ z7_ z8_ z9_ z10_ z11_ z12_ z13_ z14_ z15_ F_r
          replace HBW := Lib.hid ((((((((HBW.out.setCell (p := ⟨wd7.heap.size, 0, none⟩) hle (.int .u64 0)).setCell (p := ⟨wd7.heap.size, 1, none⟩) hle (.int .u64 0)).setCell (p := ⟨wd7.heap.size, 2, none⟩) hle (.int .u64 0)).setCell (p := ⟨wd7.heap.size, 3, none⟩) hle (.int .u64 0)).setCell (p := ⟨wd7.heap.size, 4, none⟩) hle (.int .u64 0)).setCell (p := ⟨wd7.heap.size, 5, none⟩) hle (.int .u64 0)).setCell (p := ⟨wd7.heap.size, 6, none⟩) hle (.int .u64 0)).setCell (p := ⟨wd7.heap.size, 7, none⟩) hle (.int .u64 0))
          refine hK.out _ _ (fun h => absurd (h.symm.trans (by kernel_rfl : _ = true)) (by decide)) ?_
          clear hK K
          try simp only [Act.put, List.setIfInBounds_toArray, List.set_cons_zero, List.set_cons_succ]
          refine wpAnyB_takeP (i := 8) (some 13) (Op.assign (Operand.tmp 60)) 29 (v := ?_) ⟨_, rfl, rfl, rfl, rfl, rfl⟩ (by kernel_rfl) (by kernel_rfl) (by kernel_rfl) (by kernel_rfl) (fun _ _ _ h => h) (fun h => absurd (h.symm.trans (by kernel_rfl : _ = true)) (by decide)) (fun w' => ?_) ?_
          rotate_left
          · unfold bareOp
            go_simp
            try with_reducible rfl
          simp only [Act.put, List.setIfInBounds_toArray, List.set_cons_zero, List.set_cons_succ]
          refine wpAnyB_done (by kernel_rfl) ?_ _
          go_wp2_with fail
          go_meet
          case rel => exact ⟨rfl, HBW⟩
    case rest =>
      clear HBW
      obtain ⟨rfl, HBW⟩ := hcut
      go_wp2_with fail
      replace HBW := Lib.hid (HBW.out.alloc HBW.out.size BIG1)
      refine (peqVerify_any (v := false) (e' := 300) _ ⟨HT.out.below HBW.out, hbig1 wc, HZ1.out⟩ (by decide) (by decide) (by decide) (by decide) (by decide) (by decide) (by decide) (by decide) (by decide) (by decide) (evNone Z1)).mono ?_
      rintro e w41 ⟨rfl, hb41⟩
      replace HBW := Lib.hid (HBW.out.trans (hb41.mono HBW.out.size))
      clear hb41
      go_wp2_with fail
      refine (small_any _).mono ?_
      rintro e w42 ⟨rfl, hb42⟩
      replace HBW := Lib.hid (HBW.out.trans (hb42.mono HBW.out.size))
      clear hb42
      go_wp2_with fail
      refine (peqVerify_any (v := false) (e' := 0) _ (txt_nil (HT.out.below HBW.out)) (by decide) (by decide) (by decide) (by decide) (by decide) (by decide) (by decide) (by decide) (by decide) (by decide) evZero).mono ?_
      rintro e w43 ⟨rfl, hb43⟩
      replace HBW := Lib.hid (HBW.out.trans (hb43.mono HBW.out.size))
      clear hb43
      go_wp2_with fail
      refine (small_any _).mono ?_
      rintro e w44 ⟨rfl, hb44⟩
      replace HBW := Lib.hid (HBW.out.trans (hb44.mono HBW.out.size))
      clear hb44
      go_wp2_with fail
      refine (pbitVerify_any (v := false) (e' := 2) _ (txt_nil (HT.out.below HBW.out)) (by decide) (by decide) (by decide) (by decide) (by decide) (by decide) (by decide) (by decide) (by decide) (by decide) (by decide) (by decide) (by decide) (by decide) (by decide) bvN).mono ?_
      rintro e w45 ⟨rfl, hb45⟩
      replace HBW := Lib.hid (HBW.out.trans (hb45.mono HBW.out.size))
      clear hb45
      go_wp2_with fail
      refine (small_any _).mono ?_
      rintro e w46 ⟨rfl, hb46⟩
      replace HBW := Lib.hid (HBW.out.trans (hb46.mono HBW.out.size))
      clear hb46
      go_wp2_with fail
      refine (peqProve_any _ (txt_nil (HT.out.below HBW.out)) (by decide) (by decide) (by decide) (by decide) (by decide) (by decide) (by decide) HE1.out).mono ?_
      rintro e w47 ⟨rfl, hb47⟩
      replace HBW := Lib.hid (HBW.out.trans (hb47.mono HBW.out.size))
      clear hb47
      go_wp2_with fail
      have F_pf := Lib.hid (show Arr .u64 (w47.alloc (.cells #[.int .u64 12, .int .u64 9, .int .u64 ZZ] 26)) (w47.heap.size) [12, 9, ZZ] from Arr.new .u64 w47 [12, 9, ZZ] _ _ rfl)
      replace HBW := Lib.hid (HBW.out.alloc HBW.out.size (.cells #[.int .u64 12, .int .u64 9, .int .u64 ZZ] 26))
      replace F_pf := Lib.hid F_pf.out.drew
      replace HBW := Lib.hid HBW.out.drew
      have hS := F_pf.out.s3
      refine wp_region_stage 7 (fun w' => S3 w' w47.heap.size 12 9 ZZ) (by kernel_rfl) ?_
      refine wpAnyB_take (i := 1) (some 89) (Op.load 26 (Operand.tmp 20)) 26 (v := ?_) ⟨_, rfl, rfl, rfl, rfl, rfl⟩ (by kernel_rfl) (by kernel_rfl) (by kernel_rfl) [2, 3, 4, 5, 6, 7] (by kernel_rfl) (fun _ _ _ h => h) hS (fun w' hSw => ?_) ?_
      rotate_left
      · obtain ⟨s0, s1, s2⟩ := hSw
        unfold bareOp
        go_simp
        try with_reducible rfl
      simp only [Act.put, List.setIfInBounds_toArray, List.set_cons_zero, List.set_cons_succ]
      refine wpAnyB_only (i := 0) (some 88) (Op.call { callee := Callee.value (Operand.func 28), args := #[], argTypes := #[] }) 24 ⟨_, rfl, rfl, rfl, rfl, rfl⟩ (by kernel_rfl) (fun K hK => ?_)
      unfold bareOp
      go_wp2_with (go_at_call 28; refine (small_any _).mono ?_; rintro e w48 ⟨rfl, hb48⟩)
      replace F_pf := Lib.hid (F_pf.out.keep hb48)
      replace HBW := Lib.hid (HBW.out.trans (hb48.mono HBW.out.size))
      replace hS := F_pf.out.s3
      clear hb48
      refine hK.out _ _ (fun _ => hS) ?_
      clear hK K
      try simp only [Act.put, List.setIfInBounds_toArray, List.set_cons_zero, List.set_cons_succ]
      refine wpAnyB_only (i := 2) (some 90) (Op.call { callee := Callee.value (Operand.func 14), args := #[Operand.tmp 88, Operand.const (Value.int IntKind.u64 18), Operand.const (Value.int IntKind.u64 2), Operand.const (Value.int IntKind.u64 8), Operand.tmp 89, Operand.const (Value.slice none 0 0)], argTypes := #[24, 22, 22, 22, 26, 27] }) 34 ⟨_, rfl, rfl, rfl, rfl, rfl⟩ (by kernel_rfl) (fun K hK => ?_)
      unfold bareOp
      go_wp2_with (go_at_call 14; refine (peqVerify_any (v := true) (e' := 0) _ (txt_nil (HT.out.below HBW.out)) (by decide) (by decide) (by decide) (by decide) (by decide) (by decide) (by decide) (by decide) ZZ0 (by decide) HE2.out).mono ?_; rintro e w49 ⟨rfl, hb49⟩)
      replace F_pf := Lib.hid (F_pf.out.keep hb49)
      replace HBW := Lib.hid (HBW.out.trans (hb49.mono HBW.out.size))
      replace hS := F_pf.out.s3
      clear hb49
      refine hK.out _ _ (fun _ => hS) ?_
      clear hK K
      try simp only [Act.put, List.setIfInBounds_toArray, List.set_cons_zero, List.set_cons_succ]
      refine wpAnyB_takeP (i := 3) (some 87) (Op.move (Operand.tmp 90)) 34 (v := ?_) ⟨_, rfl, rfl, rfl, rfl, rfl⟩ (by kernel_rfl) (by kernel_rfl) (by kernel_rfl) (by kernel_rfl) (fun _ _ _ h => h) (fun _ => hS) (fun w' => ?_) ?_
      rotate_left
      · unfold bareOp
        go_simp
        try with_reducible rfl
      simp only [Act.put, List.setIfInBounds_toArray, List.set_cons_zero, List.set_cons_succ]
      refine wpAnyB_takeP (i := 4) (some 91) (Op.extract (Operand.tmp 87) 0) 4 (v := ?_) ⟨_, rfl, rfl, rfl, rfl, rfl⟩ (by kernel_rfl) (by kernel_rfl) (by kernel_rfl) (by kernel_rfl) (fun _ _ _ h => h) (fun _ => hS) (fun w' => ?_) ?_
      rotate_left
      · unfold bareOp
        go_simp
        try with_reducible rfl
      simp only [Act.put, List.setIfInBounds_toArray, List.set_cons_zero, List.set_cons_succ]
      refine wpAnyB_takeP (i := 5) (some 92) (Op.extract (Operand.tmp 87) 1) 29 (v := ?_) ⟨_, rfl, rfl, rfl, rfl, rfl⟩ (by kernel_rfl) (by kernel_rfl) (by kernel_rfl) (by kernel_rfl) (fun _ _ _ h => h) (fun _ => hS) (fun w' => ?_) ?_
      rotate_left
      · unfold bareOp
        go_simp
        try with_reducible rfl
      simp only [Act.put, List.setIfInBounds_toArray, List.set_cons_zero, List.set_cons_succ]
      refine wpAnyB_takeP (i := 6) (some 22) (Op.assign (Operand.tmp 91)) 4 (v := ?_) ⟨_, rfl, rfl, rfl, rfl, rfl⟩ (by kernel_rfl) (by kernel_rfl) (by kernel_rfl) (by kernel_rfl) (fun _ _ _ h => h) (fun _ => hS) (fun w' => ?_) ?_
      rotate_left
      · unfold bareOp
        go_simp
        try with_reducible rfl
      simp only [Act.put, List.setIfInBounds_toArray, List.set_cons_zero, List.set_cons_succ]
      refine wpAnyB_only (i := 7) (some 23) (Op.assign (Operand.tmp 92)) 29 ⟨_, rfl, rfl, rfl, rfl, rfl⟩ (by kernel_rfl) (fun K hK => ?_)
      unfold bareOp
      go_wp2_with fail
      refine hK.out _ _ (fun h => absurd (h.symm.trans (by kernel_rfl : _ = true)) (by decide)) ?_
      clear hK K
      try simp only [Act.put, List.setIfInBounds_toArray, List.set_cons_zero, List.set_cons_succ]
      refine wpAnyB_done (by kernel_rfl) ?_ _
      clear hS
      obtain ⟨q0_0, q0_1, q0_2, q0_3, q0_4, q0_5⟩ := Arr.k3 F_pf.out
      go_wp2_with fail
      clear q0_0 q0_1 q0_2 q0_3 q0_4 q0_5
      refine (alive_yes _).mono ?_
      rintro e w50 ⟨rfl, hb50⟩
      replace F_pf := Lib.hid (F_pf.out.keep hb50)
      replace HBW := Lib.hid (HBW.out.trans (hb50.mono HBW.out.size))
      clear hb50
      obtain ⟨q0_0, q0_1, q0_2, q0_3, q0_4, q0_5⟩ := Arr.k3 F_pf.out
      go_wp2_with fail
      go_ret
      exact ⟨rfl, HBW.out⟩


set_option maxRecDepth 100000 in
theorem lifted (os : Os) (started : os.Started) (H : Type) (enc : TypeId × Value → H) :
    ReturnsInHanded {} Tryd.checked os 8 .any (fun w args => (Rows.proofNamesSpec.pre enc Tryd.prog Tryd.f8 [] false w args ∧ laidMetH Tryd.prog laidL w) ∧ sizedMet enc Tryd.prog Tryd.f8 (OpenSpec.ofChange Rows.proofNamesSpec) false w args) (Rows.proofNamesSpec.post enc Tryd.prog Tryd.f8 false true false false) := by
  refine returnsInHanded_of_change_and (C := Tryd.checked) (X := fun w _ => laidMetH Tryd.prog laidL w) (fun _ _ _ hh h => h.of_heap hh) own started (by kernel_rfl) Tryd.func8
    (ChangeSpec.witness_shaped (enc := enc) (C := Tryd.checked) (os := os) (X := fun w _ => laidMetH Tryd.prog laidL w) false (World.doorLaid Tryd.prog 19 os) #[] 8 rfl (World.shaped_of_RefB (by kernel_rfl) (by kernel_rfl)) (by kernel_rfl) (by kernel_rfl) (by kernel_rfl) (door_met os _)) ?_
  intro W base args ds gs before hval0 hW _ _ hL _
  have hT := tabs_of_laid hL
  clear hL
  have hval : ∀ (j : Nat) t v, Tryd.f8.params[j]? = some t → args[j]? = some v → Value.okWide Tryd.prog W .any base t v := hval0
  have hW' := hW
  obtain ⟨p, q, hA0, hV, rfl, hfz, hnd⟩ := hW
  have hA : DataW.TrodAll enc Tryd.prog W 0 (fun _ => true) true Tryd.f8.params.toList args.toList ds p := hA0
  rw [Tryd.params8] at hA hval
  have hK := hA
  obtain ⟨hargs, rfl, rfl⟩ := trodAll_nil hA
  obtain rfl : args = #[] := by cases args; simp_all
  obtain ⟨rfl, rfl⟩ := trodVars_none hV
  clear hA0 hval0
  refine (walk  W  hT).mono fun e W' ⟨he, bel⟩ => ?_
  subst he
  exact ⟨_, rfl, _, _, _, [], _, [], hW', trodAll_mk1 (shut_bool Tryd.underlying4 _), trodAll_stays laidOut (by kernel_rfl) hK bel, rfl, bel.frame _, fun h => by cases h⟩

theorem over : Rows.proofNamesRow.holds Tryd.pinned (OpenSpec.ofChange Rows.proofNamesSpec) :=
  OpenClaim.holds_of_wide 8 Tryd.f8 rfl rfl rfl rfl rfl rfl rfl ⟨rfl, rfl, rfl, rfl, rfl⟩ rfl rfl rfl rfl rfl (by kernel_rfl) Tryd.func8 (by kernel_rfl)
    (of_decide_eq_true (by kernel_rfl)) (by unfold Func.isWrapper; first | (rw [if_pos (by decide +kernel)]; kernel_rfl) | (rw [if_neg (by decide +kernel)]; exact ⟨rfl, rfl⟩))
    (fun os started H enc _ => lifted os started H enc)

theorem proved : Rows.ProofNamesCardSaid :=
  Claim7.holds_tied_plain_at .later [] [.data, .data] true (true, "4b41c1e4d249352bcdad7fb442f9b4095dc9194e4b92b27cabf601e235f481d5") false
    over (fun _ h => by cases h) (by kernel_rfl) (fun _ h => by cases h) proofNames_row_tie rfl ⟨rfl, rfl⟩ (by kernel_rfl) rfl
    (fun f fn hf hfn => by
      obtain rfl : f = 8 := Option.some.inj ((show Tryd.prog.funcNamed "suffrage/suffragelaw33.ProofNames" = some 8 by kernel_rfl).symm.trans hf) |>.symm
      obtain rfl : fn = Tryd.f8 := (Option.some.inj (Tryd.func8.symm.trans hfn)).symm
      exact ⟨by kernel_rfl, fun j t ht => by
        rw [Tryd.params8] at ht
        have hm : t ∈ ([] : List TypeId) := by simpa using Array.mem_of_getElem? ht
        have hall : (([] : List TypeId).all fun u => !Tryd.prog.wantsStandIn u) = true := by kernel_rfl
        exact (show Tryd.prog.wantsStandIn t = false by simpa using List.all_eq_true.1 hall t hm)⟩)
    (by kernel_rfl)
#print axioms proved
end Go.Proofs.YtmcpfinnhgbcpaaDoor.lawNames
