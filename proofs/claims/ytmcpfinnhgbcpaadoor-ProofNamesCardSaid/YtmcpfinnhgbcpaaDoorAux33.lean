/- The helpers of the statements of chapter 33: small, alive, member. -/
import Derived.Test.YtmcpfinnhgbcpaaDoorBitB
import Derived.Test.YtmcpfinnhgbcpaaDoorPrs
namespace Go.Proofs.YtmcpfinnhgbcpaaDoor
open Go.RowKit Num
set_option linter.unusedSimpArgs false
set_option linter.unusedVariables false

set_option maxHeartbeats 400000 in
theorem small_any (w : World) :
    Calls Tryd.prog 28 #[] w fun e w' => e = .returned (.agg #[.int .u64 23, .int .u64 11, .int .u64 4]) ∧ Below w.heap.size w w' := by
  go_enter Tryd.func28, Tryd.ntmps28
  go_wp2
  exact bodyPost_ret (v := .agg #[.int .u64 23, .int .u64 11, .int .u64 4]) (by simp [results, Tryd.results28, go_sem]) rfl ⟨rfl, (Below.refl _ _).alloc (Nat.le_refl _) _⟩
set_option maxHeartbeats 800000 in
theorem member_is {P Q G a : Int} {r : Bool} (w : World) (hP : 0 ≤ P) (hQ : 0 ≤ Q) (hG : 0 ≤ G) (a0 : 0 ≤ a) (hr : r = true ↔ Has P Q G ∧ Mem P Q a) :
    Calls Tryd.prog 18 #[.agg #[.int .u64 P, .int .u64 Q, .int .u64 G], .int .u64 a] w fun e w' => e = .returned (.bool r) ∧ Below w.heap.size w w' := by
  by_cases hc : checkS P Q G P [a] = 0
  · have HM := Lib.hid (show RetB (checkS P Q G P [a]) (Mem P Q a) r 0 from .inl ⟨hc, by rw [hr]; simp [(checkS_zero hc).1], rfl⟩)
    clear hr hc
    go_enter Tryd.func18, Tryd.ntmps18
    go_wp2_with fail
    refine (member_gen hP hQ hG _ a0 HM.out).mono ?_
    rintro e w1 ⟨rfl, hb1⟩
    go_wp2_with fail
    go_ret
    exact ⟨rfl, ((Below.refl _ _).alloc (Nat.le_refl _) _).trans (hb1.mono (by simp))⟩
  · have HZ := Lib.hid (show false = r by
      rw [Bool.eq_iff_iff, hr]
      simp only [Bool.false_eq_true, false_iff]
      intro h
      apply hc
      rw [checkS, if_pos h.1]
      simp [okAll, h.2.2.1])
    obtain ⟨c, hcc⟩ : ∃ c, checkS P Q G P [a] = c := ⟨_, rfl⟩
    have HM := Lib.hid (show RetB (checkS P Q G P [a]) (Mem P Q a) false c from .inr ⟨hc, rfl, hcc.symm⟩)
    have hn : (c == 0) = false := by rw [← hcc]; simpa using hc
    clear hr hc hcc
    go_enter Tryd.func18, Tryd.ntmps18
    go_wp2_with fail
    refine (member_gen hP hQ hG _ a0 HM.out).mono ?_
    rintro e w1 ⟨rfl, hb1⟩
    go_wp2_with fail
    go_ret
    exact ⟨ret_bool HZ.out, ((Below.refl _ _).alloc (Nat.le_refl _) _).trans (hb1.mono (by simp))⟩
theorem eqS1 : RetB (askS 23 11 4 [0, 2] [18, 2, 8, 12, 9]) (powm 4 0 23 = 12 * powm 18 2 23 % 23 ∧ powm 2 0 23 = 9 * powm 8 2 23 % 23) true 0 := by
  have h1 : powm 4 0 23 = 1 := powm_nat 4 0 23 1 (by decide)
  have h2 : powm 18 2 23 = 2 := powm_nat 18 2 23 2 (by decide)
  have h3 : powm 2 0 23 = 1 := powm_nat 2 0 23 1 (by decide)
  have h4 : powm 8 2 23 = 18 := powm_nat 8 2 23 18 (by decide)
  exact .inl ⟨askS_ok has_small (by simp) (by simp), by rw [h1, h2, h3, h4]; decide, rfl⟩
theorem eqS2 : RetB (askS 23 11 4 [0, 3] [18, 2, 8, 12, 9]) (powm 4 0 23 = 12 * powm 18 3 23 % 23 ∧ powm 2 0 23 = 9 * powm 8 3 23 % 23) false 0 := by
  have h1 : powm 4 0 23 = 1 := powm_nat 4 0 23 1 (by decide)
  have h2 : powm 18 3 23 = 13 := powm_nat 18 3 23 13 (by decide)
  exact .inl ⟨askS_ok has_small (by simp) (by simp), by rw [h1, h2]; simp, rfl⟩
theorem bitS1 : RetB (askS 23 11 4 [0, 0, 0, 0, 0] [18, 12, 2, 1, 1, 1, 1]) ((powm 4 0 23 = 1 * powm 12 0 23 % 23 ∧ powm 18 0 23 = 1 * powm 2 0 23 % 23) ∧ (powm 4 0 23 = 1 * powm 12 0 23 % 23 ∧ powm 18 0 23 = 1 * powm 12 0 23 % 23) ∧ (0 + 0) % 11 = (0 : Int)) true 0 := by
  have h1 : powm 4 0 23 = 1 := powm_nat 4 0 23 1 (by decide)
  have h2 : powm 12 0 23 = 1 := powm_nat 12 0 23 1 (by decide)
  have h3 : powm 18 0 23 = 1 := powm_nat 18 0 23 1 (by decide)
  have h4 : powm 2 0 23 = 1 := powm_nat 2 0 23 1 (by decide)
  exact .inl ⟨askS_ok has_small (by simp) (by simp), by rw [h1, h2, h3, h4]; decide, rfl⟩
theorem pp1 : powm 4 10 23 = 6 := powm_nat 4 10 23 6 (by decide)

set_option maxRecDepth 100000 in
set_option maxHeartbeats 6400000 in
theorem alive_yes (w : World) :
    Calls Tryd.prog 16 #[] w fun e w' => e = .returned (.bool true) ∧ Below w.heap.size w w' := by
  have HBW := Lib.hid (show Below w.heap.size w w from Below.refl _ _)
  go_enter Tryd.func16, Tryd.ntmps16
  go_wp2_with fail
  refine (small_any _).mono ?_
  rintro e w1 ⟨rfl, hb1⟩
  replace HBW := Lib.hid (HBW.out.trans (hb1.mono HBW.out.size))
  clear hb1
  go_wp2_with fail
  refine (equalHolds_any _ (by decide) (by decide) (by decide) (by decide) (by decide) (by decide) (by decide) (by decide) (by decide) (by decide) eqS1).mono ?_
  rintro e w2 ⟨rfl, hb2⟩
  replace HBW := Lib.hid (HBW.out.trans (hb2.mono HBW.out.size))
  clear hb2
  go_wp2_with fail
  refine (small_any _).mono ?_
  rintro e w3 ⟨rfl, hb3⟩
  replace HBW := Lib.hid (HBW.out.trans (hb3.mono HBW.out.size))
  clear hb3
  go_wp2_with fail
  refine (equalHolds_any _ (by decide) (by decide) (by decide) (by decide) (by decide) (by decide) (by decide) (by decide) (by decide) (by decide) eqS2).mono ?_
  rintro e w4 ⟨rfl, hb4⟩
  replace HBW := Lib.hid (HBW.out.trans (hb4.mono HBW.out.size))
  clear hb4
  go_wp2_with fail
  have F_p := Lib.hid (Eight.at w4 1 1 1 1 0 0 0 0 54 w4.heap.size rfl)
  replace HBW := Lib.hid (HBW.out.alloc HBW.out.size (.cells #[.int .u64 1, .int .u64 1, .int .u64 1, .int .u64 1, .int .u64 0, .int .u64 0, .int .u64 0, .int .u64 0] 54))
  replace F_p := Lib.hid F_p.out.drew
  replace HBW := Lib.hid HBW.out.drew
  have hS := F_p.out.s
  refine wp_region_stage 3 (fun w' => S8 w' w4.heap.size 1 1 1 1 0 0 0 0) (by kernel_rfl) ?_
  refine wpAnyB_takeP (i := 1) (some 25) (Op.build 51 #[(0, Operand.const (Value.int IntKind.u64 12)), (1, Operand.const (Value.int IntKind.u64 2))]) 51 (v := ?_) ⟨_, rfl, rfl, rfl, rfl, rfl⟩ (by kernel_rfl) (by kernel_rfl) (by kernel_rfl) (by kernel_rfl) (fun _ _ _ h => h) (fun _ => hS) (fun w' => ?_) ?_
  rotate_left
  · unfold bareOp
    go_simp
    try with_reducible rfl
  simp only [Act.put, List.setIfInBounds_toArray, List.set_cons_zero, List.set_cons_succ]
  refine wpAnyB_take (i := 2) (some 26) (Op.load 54 (Operand.tmp 5)) 54 (v := ?_) ⟨_, rfl, rfl, rfl, rfl, rfl⟩ (by kernel_rfl) (by kernel_rfl) (by kernel_rfl) [3] (by kernel_rfl) (fun _ _ _ h => h) hS (fun w' hSw => ?_) ?_
  rotate_left
  · obtain ⟨s0, s1, s2, s3, s4, s5, s6, s7⟩ := hSw
    unfold bareOp
    go_simp
    try with_reducible rfl
  simp only [Act.put, List.setIfInBounds_toArray, List.set_cons_zero, List.set_cons_succ]
  refine wpAnyB_only (i := 0) (some 24) (Op.call { callee := Callee.value (Operand.func 28), args := #[], argTypes := #[] }) 24 ⟨_, rfl, rfl, rfl, rfl, rfl⟩ (by kernel_rfl) (fun K hK => ?_)
  unfold bareOp
  go_wp2_with (go_at_call 28; refine (small_any _).mono ?_; rintro e w5 ⟨rfl, hb5⟩)
  replace F_p := Lib.hid (F_p.out.keep hb5)
  replace HBW := Lib.hid (HBW.out.trans (hb5.mono HBW.out.size))
  replace hS := F_p.out.s
  clear hb5
  refine hK.out _ _ (fun _ => hS) ?_
  clear hK K
  try simp only [Act.put, List.setIfInBounds_toArray, List.set_cons_zero, List.set_cons_succ]
  refine wpAnyB_only (i := 3) (some 27) (Op.call { callee := Callee.value (Operand.func 23), args := #[Operand.tmp 24, Operand.const (Value.int IntKind.u64 18), Operand.tmp 25, Operand.tmp 26, Operand.const (Value.int IntKind.u64 0)], argTypes := #[24, 22, 51, 54, 22] }) 34 ⟨_, rfl, rfl, rfl, rfl, rfl⟩ (by kernel_rfl) (fun K hK => ?_)
  unfold bareOp
  go_wp2_with (go_at_call 23; refine (bitHolds_any _ (by decide) (by decide) (by decide) (by decide) (by decide) (by decide) (by decide) (by decide) (by decide) (by decide) (by decide) (by decide) (by decide) (by decide) (by decide) (nn := 10) (by decide) pp1 rfl bitS1).mono ?_; rintro e w6 ⟨rfl, hb6⟩)
  replace F_p := Lib.hid (F_p.out.keep hb6)
  replace HBW := Lib.hid (HBW.out.trans (hb6.mono HBW.out.size))
  replace hS := F_p.out.s
  clear hb6
  refine hK.out _ _ (fun h => absurd (h.symm.trans (by kernel_rfl : _ = true)) (by decide)) ?_
  clear hK K
  try simp only [Act.put, List.setIfInBounds_toArray, List.set_cons_zero, List.set_cons_succ]
  refine wpAnyB_takeP (i := 4) (some 23) (Op.move (Operand.tmp 27)) 34 (v := ?_) ⟨_, rfl, rfl, rfl, rfl, rfl⟩ (by kernel_rfl) (by kernel_rfl) (by kernel_rfl) (by kernel_rfl) (fun _ _ _ h => h) (fun h => absurd (h.symm.trans (by kernel_rfl : _ = true)) (by decide)) (fun w' => ?_) ?_
  rotate_left
  · unfold bareOp
    go_simp
    try with_reducible rfl
  simp only [Act.put, List.setIfInBounds_toArray, List.set_cons_zero, List.set_cons_succ]
  refine wpAnyB_takeP (i := 5) (some 28) (Op.extract (Operand.tmp 23) 0) 4 (v := ?_) ⟨_, rfl, rfl, rfl, rfl, rfl⟩ (by kernel_rfl) (by kernel_rfl) (by kernel_rfl) (by kernel_rfl) (fun _ _ _ h => h) (fun h => absurd (h.symm.trans (by kernel_rfl : _ = true)) (by decide)) (fun w' => ?_) ?_
  rotate_left
  · unfold bareOp
    go_simp
    try with_reducible rfl
  simp only [Act.put, List.setIfInBounds_toArray, List.set_cons_zero, List.set_cons_succ]
  refine wpAnyB_takeP (i := 6) (some 29) (Op.extract (Operand.tmp 23) 1) 29 (v := ?_) ⟨_, rfl, rfl, rfl, rfl, rfl⟩ (by kernel_rfl) (by kernel_rfl) (by kernel_rfl) (by kernel_rfl) (fun _ _ _ h => h) (fun h => absurd (h.symm.trans (by kernel_rfl : _ = true)) (by decide)) (fun w' => ?_) ?_
  rotate_left
  · unfold bareOp
    go_simp
    try with_reducible rfl
  simp only [Act.put, List.setIfInBounds_toArray, List.set_cons_zero, List.set_cons_succ]
  refine wpAnyB_takeP (i := 7) (some 6) (Op.assign (Operand.tmp 28)) 4 (v := ?_) ⟨_, rfl, rfl, rfl, rfl, rfl⟩ (by kernel_rfl) (by kernel_rfl) (by kernel_rfl) (by kernel_rfl) (fun _ _ _ h => h) (fun h => absurd (h.symm.trans (by kernel_rfl : _ = true)) (by decide)) (fun w' => ?_) ?_
  rotate_left
  · unfold bareOp
    go_simp
    try with_reducible rfl
  simp only [Act.put, List.setIfInBounds_toArray, List.set_cons_zero, List.set_cons_succ]
  refine wpAnyB_takeP (i := 8) (some 7) (Op.assign (Operand.tmp 29)) 29 (v := ?_) ⟨_, rfl, rfl, rfl, rfl, rfl⟩ (by kernel_rfl) (by kernel_rfl) (by kernel_rfl) (by kernel_rfl) (fun _ _ _ h => h) (fun h => absurd (h.symm.trans (by kernel_rfl : _ = true)) (by decide)) (fun w' => ?_) ?_
  rotate_left
  · unfold bareOp
    go_simp
    try with_reducible rfl
  simp only [Act.put, List.setIfInBounds_toArray, List.set_cons_zero, List.set_cons_succ]
  refine wpAnyB_done (by kernel_rfl) ?_ _
  go_wp2_with fail
  go_ret
  exact ⟨rfl, HBW.out⟩
end Go.Proofs.YtmcpfinnhgbcpaaDoor
