/- The helpers of the statements of chapter 32: small, is, opens, alive. -/
import Derived.Test.YtffefhldfnfohaaElgGen
import Derived.Test.YtffefhldfnfohaaStageTwo
import Derived.Test.YtffefhldfnfohaaLawZ
namespace Go.Proofs.Ytffefhldfnfohaa
open Go.RowKit Num
set_option linter.unusedSimpArgs false
set_option linter.unusedVariables false

set_option maxHeartbeats 400000 in
theorem small_any (w : World) :
    Calls Try.prog 33 #[] w fun e w' => e = .returned (.agg #[.int .u64 23, .int .u64 11, .int .u64 4]) ∧ Below w.heap.size w w' := by
  go_enter Try.func33, Try.ntmps33
  go_wp2
  exact bodyPost_ret (v := .agg #[.int .u64 23, .int .u64 11, .int .u64 4]) (by simp [results, Try.results33, go_sem]) rfl ⟨rfl, (Below.refl _ _).alloc (Nat.le_refl _) _⟩

set_option maxHeartbeats 400000 in
theorem is_yes (a b : Int) (w : World) :
    Calls Try.prog 34 #[.agg #[.int .u64 a, .int .u64 b], .int .i64 0, .int .u64 a, .int .u64 b] w fun e w' => e = .returned (.bool true) ∧ Below w.heap.size w w' := by
  go_enter Try.func34, Try.ntmps34
  go_wp2
  go_ret
  exact ⟨rfl, (Below.refl _ _).alloc (Nat.le_refl _) _⟩

set_option maxHeartbeats 400000 in
theorem opens_yes (n : Int) (w : World) :
    Calls Try.prog 32 #[.int .i64 n, .int .i64 0, .int .i64 n] w fun e w' => e = .returned (.bool true) ∧ w = w' := by
  go_enter Try.func32, Try.ntmps32
  go_wp2
  go_ret
  exact ⟨rfl, rfl⟩

theorem encS1 : EncS 23 11 4 18 2 5 12 2 0 := by
  have h1 : powm 4 5 23 = 12 := powm_nat 4 5 23 12 (by decide)
  have h2 : powm 4 2 23 = 16 := powm_nat 4 2 23 16 (by decide)
  have h3 : powm 18 5 23 = 3 := powm_nat 18 5 23 3 (by decide)
  exact .inl ⟨askS_ok has_small (by simp) (by simp), h1, by rw [h2, h3]; decide, rfl⟩
theorem encS2 : EncS 23 11 4 18 1 1 4 3 0 := by
  have h1 : powm 4 1 23 = 4 := powm_nat 4 1 23 4 (by decide)
  have h3 : powm 18 1 23 = 18 := powm_nat 18 1 23 18 (by decide)
  exact .inl ⟨askS_ok has_small (by simp) (by simp), h1, by rw [h1, h3]; decide, rfl⟩
theorem logS_two : LogS 23 4 16 10 2 0 := by
  have h0 : powm 4 0 23 = 1 := powm_nat 4 0 23 1 (by decide)
  have h1 : powm 4 1 23 = 4 := powm_nat 4 1 23 4 (by decide)
  refine .inl ⟨by omega, by omega, powm_nat 4 2 23 16 (by decide), fun y y0 y1 => ?_, rfl⟩
  obtain rfl | rfl : y = 0 ∨ y = 1 := by omega
  · rw [h0]; decide
  · rw [h1]; decide
theorem logS_three : LogS 23 4 18 10 3 0 := by
  have h0 : powm 4 0 23 = 1 := powm_nat 4 0 23 1 (by decide)
  have h1 : powm 4 1 23 = 4 := powm_nat 4 1 23 4 (by decide)
  have h2 : powm 4 2 23 = 16 := powm_nat 4 2 23 16 (by decide)
  refine .inl ⟨by omega, by omega, powm_nat 4 3 23 18 (by decide), fun y y0 y1 => ?_, rfl⟩
  obtain rfl | rfl | rfl : y = 0 ∨ y = 1 ∨ y = 2 := by omega
  · rw [h0]; decide
  · rw [h1]; decide
  · rw [h2]; decide
theorem decS1 : DecS 23 11 4 3 12 2 10 2 0 := by
  have h1 : powm 12 3 23 = 3 := powm_nat 12 3 23 3 (by decide)
  exact .inl ⟨askS_ok has_small (by simp) (by simp), .inl ⟨by omega, by omega, true, 8, by rw [h1]; exact invS_of (by omega) (by omega) (by decide), .inl ⟨rfl, logS_two⟩⟩⟩
theorem decS2 : DecS 23 11 4 3 2 6 10 3 0 := by
  have h1 : powm 2 3 23 = 8 := powm_nat 2 3 23 8 (by decide)
  exact .inl ⟨askS_ok has_small (by simp) (by simp), .inl ⟨by omega, by omega, true, 3, by rw [h1]; exact invS_of (by omega) (by omega) (by decide), .inl ⟨rfl, logS_three⟩⟩⟩
theorem addS1 : AddS 23 11 4 12 2 4 3 2 6 0 := .inl ⟨askS_ok has_small (by simp) (by simp), by decide, by decide, rfl⟩

set_option maxRecDepth 100000 in
set_option maxHeartbeats 6400000 in
theorem alive_yes (w : World) :
    Calls Try.prog 18 #[] w fun e w' => e = .returned (.bool true) ∧ Below w.heap.size w w' := by
  have HBW := Lib.hid (show Below w.heap.size w w from Below.refl _ _)
  go_enter Try.func18, Try.ntmps18
  go_wp2_with fail
  refine (small_any _).mono ?_
  rintro e w1 ⟨rfl, hb1⟩
  replace HBW := Lib.hid (HBW.out.trans (hb1.mono HBW.out.size))
  clear hb1
  go_wp2_with fail
  refine (encrypt_gen _ (by decide) (by decide) (by decide) (by decide) (by decide) (by decide) encS1).mono ?_
  rintro e w2 ⟨rfl, hb2⟩
  replace HBW := Lib.hid (HBW.out.trans (hb2.mono HBW.out.size))
  clear hb2
  have F_c := Lib.hid (Pair.new w2 12 2 26)
  replace HBW := Lib.hid (HBW.out.alloc HBW.out.size (.cells #[.int .u64 12, .int .u64 2] 26))
  obtain ⟨x0a, x0b, x0c, x0d, -⟩ := id F_c.out
  go_wp2_with fail
  clear x0a x0b x0c x0d
  replace F_c := Lib.hid F_c.out.drew
  replace HBW := Lib.hid HBW.out.drew
  have hS := F_c.out.s
  refine wp_region_stage 2 (fun w' => SPair w' (w2.heap.size) 12 2) (by kernel_rfl) ?_
  refine wpAnyB_take (i := 1) (some 18) (Op.load 26 (Operand.tmp 1)) 26 (v := ?_) ⟨_, rfl, rfl, rfl, rfl, rfl⟩ (by kernel_rfl) (by kernel_rfl) (by kernel_rfl) [2] (by kernel_rfl) (fun _ _ _ h => h) hS (fun w' hSw => ?_) ?_
  rotate_left
  · obtain ⟨s0, s1⟩ := hSw
    unfold bareOp
    go_simp
    try with_reducible rfl
  simp only [Act.put, List.setIfInBounds_toArray, List.set_cons_zero, List.set_cons_succ]
  refine wpAnyB_only (i := 0) (some 17) (Op.call { callee := Callee.value (Operand.func 33), args := #[], argTypes := #[] }) 24 ⟨_, rfl, rfl, rfl, rfl, rfl⟩ (by kernel_rfl) (fun K hK => ?_)
  unfold bareOp
  go_wp2_with (go_at_call 33; refine (small_any _).mono ?_; rintro e w3 ⟨rfl, hb3⟩)
  replace F_c := Lib.hid (F_c.out.keep hb3)
  replace HBW := Lib.hid (HBW.out.trans (hb3.mono HBW.out.size))
  replace hS := F_c.out.s
  clear hb3
  refine hK.out _ _ (fun _ => hS) ?_
  clear hK K
  try simp only [Act.put, List.setIfInBounds_toArray, List.set_cons_zero, List.set_cons_succ]
  refine wpAnyB_only (i := 2) (some 19) (Op.call { callee := Callee.value (Operand.func 27), args := #[Operand.tmp 17, Operand.const (Value.int IntKind.u64 3), Operand.tmp 18, Operand.const (Value.int IntKind.i64 10)], argTypes := #[24, 22, 26, 3] }) 53 ⟨_, rfl, rfl, rfl, rfl, rfl⟩ (by kernel_rfl) (fun K hK => ?_)
  unfold bareOp
  go_wp2_with (go_at_call 27; refine (edecrypt_gen _ (by decide) (by decide) (by decide) (by decide) (by decide) (by decide) decS1).mono ?_; rintro e w4 ⟨rfl, hb4⟩)
  replace F_c := Lib.hid (F_c.out.keep hb4)
  replace HBW := Lib.hid (HBW.out.trans (hb4.mono HBW.out.size))
  replace hS := F_c.out.s
  clear hb4
  refine hK.out _ _ (fun h => absurd (h.symm.trans (by kernel_rfl : _ = true)) (by decide)) ?_
  clear hK K
  try simp only [Act.put, List.setIfInBounds_toArray, List.set_cons_zero, List.set_cons_succ]
  refine wpAnyB_takeP (i := 3) (some 16) (Op.move (Operand.tmp 19)) 53 (v := ?_) ⟨_, rfl, rfl, rfl, rfl, rfl⟩ (by kernel_rfl) (by kernel_rfl) (by kernel_rfl) (by kernel_rfl) (fun _ _ _ h => h) (fun h => absurd (h.symm.trans (by kernel_rfl : _ = true)) (by decide)) (fun w' => ?_) ?_
  rotate_left
  · unfold bareOp
    go_simp
    try with_reducible rfl
  simp only [Act.put, List.setIfInBounds_toArray, List.set_cons_zero, List.set_cons_succ]
  refine wpAnyB_takeP (i := 4) (some 20) (Op.extract (Operand.tmp 16) 0) 3 (v := ?_) ⟨_, rfl, rfl, rfl, rfl, rfl⟩ (by kernel_rfl) (by kernel_rfl) (by kernel_rfl) (by kernel_rfl) (fun _ _ _ h => h) (fun h => absurd (h.symm.trans (by kernel_rfl : _ = true)) (by decide)) (fun w' => ?_) ?_
  rotate_left
  · unfold bareOp
    go_simp
    try with_reducible rfl
  simp only [Act.put, List.setIfInBounds_toArray, List.set_cons_zero, List.set_cons_succ]
  refine wpAnyB_takeP (i := 5) (some 21) (Op.extract (Operand.tmp 16) 1) 30 (v := ?_) ⟨_, rfl, rfl, rfl, rfl, rfl⟩ (by kernel_rfl) (by kernel_rfl) (by kernel_rfl) (by kernel_rfl) (fun _ _ _ h => h) (fun h => absurd (h.symm.trans (by kernel_rfl : _ = true)) (by decide)) (fun w' => ?_) ?_
  rotate_left
  · unfold bareOp
    go_simp
    try with_reducible rfl
  simp only [Act.put, List.setIfInBounds_toArray, List.set_cons_zero, List.set_cons_succ]
  refine wpAnyB_takeP (i := 6) (some 3) (Op.assign (Operand.tmp 20)) 3 (v := ?_) ⟨_, rfl, rfl, rfl, rfl, rfl⟩ (by kernel_rfl) (by kernel_rfl) (by kernel_rfl) (by kernel_rfl) (fun _ _ _ h => h) (fun h => absurd (h.symm.trans (by kernel_rfl : _ = true)) (by decide)) (fun w' => ?_) ?_
  rotate_left
  · unfold bareOp
    go_simp
    try with_reducible rfl
  simp only [Act.put, List.setIfInBounds_toArray, List.set_cons_zero, List.set_cons_succ]
  refine wpAnyB_takeP (i := 7) (some 4) (Op.assign (Operand.tmp 21)) 30 (v := ?_) ⟨_, rfl, rfl, rfl, rfl, rfl⟩ (by kernel_rfl) (by kernel_rfl) (by kernel_rfl) (by kernel_rfl) (fun _ _ _ h => h) (fun h => absurd (h.symm.trans (by kernel_rfl : _ = true)) (by decide)) (fun w' => ?_) ?_
  rotate_left
  · unfold bareOp
    go_simp
    try with_reducible rfl
  simp only [Act.put, List.setIfInBounds_toArray, List.set_cons_zero, List.set_cons_succ]
  refine wpAnyB_done (by kernel_rfl) ?_ _
  obtain ⟨x0a, x0b, x0c, x0d, -⟩ := id F_c.out
  go_wp2_with fail
  clear x0a x0b x0c x0d
  refine (small_any _).mono ?_
  rintro e w5 ⟨rfl, hb5⟩
  replace F_c := Lib.hid (F_c.out.keep hb5)
  replace HBW := Lib.hid (HBW.out.trans (hb5.mono HBW.out.size))
  clear hb5
  obtain ⟨x0a, x0b, x0c, x0d, -⟩ := id F_c.out
  go_wp2_with fail
  clear x0a x0b x0c x0d
  refine (encrypt_gen _ (by decide) (by decide) (by decide) (by decide) (by decide) (by decide) encS2).mono ?_
  rintro e w6 ⟨rfl, hb6⟩
  replace F_c := Lib.hid (F_c.out.keep hb6)
  replace HBW := Lib.hid (HBW.out.trans (hb6.mono HBW.out.size))
  clear hb6
  replace F_c := Lib.hid (F_c.out.alloc (.cells #[.int .u64 4, .int .u64 3] 26))
  have F_d := Lib.hid (Pair.new w6 4 3 26)
  replace HBW := Lib.hid (HBW.out.alloc HBW.out.size (.cells #[.int .u64 4, .int .u64 3] 26))
  obtain ⟨x0a, x0b, x0c, x0d, -⟩ := id F_c.out
  obtain ⟨x1a, x1b, x1c, x1d, -⟩ := id F_d.out
  go_wp2_with fail
  clear x0a x0b x0c x0d x1a x1b x1c x1d
  replace F_c := Lib.hid F_c.out.drew
  replace F_d := Lib.hid F_d.out.drew
  replace HBW := Lib.hid HBW.out.drew
  have hS := And.intro F_c.out.s F_d.out.s
  refine wp_region_stage 3 (fun w' => SPair w' (w2.heap.size) 12 2 ∧ SPair w' (w6.heap.size) 4 3) (by kernel_rfl) ?_
  refine wpAnyB_take (i := 1) (some 29) (Op.load 26 (Operand.tmp 1)) 26 (v := ?_) ⟨_, rfl, rfl, rfl, rfl, rfl⟩ (by kernel_rfl) (by kernel_rfl) (by kernel_rfl) [3] (by kernel_rfl) (fun _ _ _ h => h) hS (fun w' hSw => ?_) ?_
  rotate_left
  · obtain ⟨⟨s0, s1⟩, ⟨s2, s3⟩⟩ := hSw
    unfold bareOp
    go_simp
    try with_reducible rfl
  simp only [Act.put, List.setIfInBounds_toArray, List.set_cons_zero, List.set_cons_succ]
  refine wpAnyB_take (i := 2) (some 30) (Op.load 26 (Operand.tmp 5)) 26 (v := ?_) ⟨_, rfl, rfl, rfl, rfl, rfl⟩ (by kernel_rfl) (by kernel_rfl) (by kernel_rfl) [3] (by kernel_rfl) (fun _ _ _ h => h) hS (fun w' hSw => ?_) ?_
  rotate_left
  · obtain ⟨⟨s0, s1⟩, ⟨s2, s3⟩⟩ := hSw
    unfold bareOp
    go_simp
    try with_reducible rfl
  simp only [Act.put, List.setIfInBounds_toArray, List.set_cons_zero, List.set_cons_succ]
  refine wpAnyB_two (i := 0) (j := 7) (some 28) (Op.call { callee := Callee.value (Operand.func 33), args := #[], argTypes := #[] }) 24 (some 7) (Op.alloc 26) 0 ⟨_, rfl, rfl, rfl, rfl, rfl⟩ ⟨_, rfl, rfl, rfl, rfl, rfl⟩ (by kernel_rfl) (fun K hK => ?_) (fun K hK => ?_)
  · skip
    unfold bareOp
    go_wp2_with (go_at_call 33; refine (small_any _).mono ?_; rintro e w7 ⟨rfl, hb7⟩)
    replace F_c := Lib.hid (F_c.out.keep hb7)
    replace F_d := Lib.hid (F_d.out.keep hb7)
    replace HBW := Lib.hid (HBW.out.trans (hb7.mono HBW.out.size))
    replace hS := And.intro F_c.out.s F_d.out.s
    clear hb7
    refine hK.out _ _ (fun _ => hS) ?_
    clear hK K
    try simp only [Act.put, List.setIfInBounds_toArray, List.set_cons_zero, List.set_cons_succ]
    refine wpAnyB_two (i := 3) (j := 7) (some 31) (Op.call { callee := Callee.value (Operand.func 13), args := #[Operand.tmp 28, Operand.tmp 29, Operand.tmp 30], argTypes := #[24, 26, 26] }) 31 (some 7) (Op.alloc 26) 0 ⟨_, rfl, rfl, rfl, rfl, rfl⟩ ⟨_, rfl, rfl, rfl, rfl, rfl⟩ (by kernel_rfl) (fun K hK => ?_) (fun K hK => ?_)
    · skip
      unfold bareOp
      go_wp2_with (go_at_call 13; refine (eAdd_gen _ (by decide) (by decide) (by decide) (by decide) (by decide) (by decide) (by decide) addS1).mono ?_; rintro e w8 ⟨rfl, hb8⟩)
      replace F_c := Lib.hid (F_c.out.keep hb8)
      replace F_d := Lib.hid (F_d.out.keep hb8)
      replace HBW := Lib.hid (HBW.out.trans (hb8.mono HBW.out.size))
      replace hS := And.intro F_c.out.s F_d.out.s
      clear hb8
      refine hK.out _ _ (fun h => absurd (h.symm.trans (by kernel_rfl : _ = true)) (by decide)) ?_
      clear hK K
      try simp only [Act.put, List.setIfInBounds_toArray, List.set_cons_zero, List.set_cons_succ]
      refine wpAnyB_takeP (i := 4) (some 27) (Op.move (Operand.tmp 31)) 31 (v := ?_) ⟨_, rfl, rfl, rfl, rfl, rfl⟩ (by kernel_rfl) (by kernel_rfl) (by kernel_rfl) (by kernel_rfl) (fun _ _ _ h => h) (fun h => absurd (h.symm.trans (by kernel_rfl : _ = true)) (by decide)) (fun w' => ?_) ?_
      rotate_left
      · unfold bareOp
        go_simp
        try with_reducible rfl
      simp only [Act.put, List.setIfInBounds_toArray, List.set_cons_zero, List.set_cons_succ]
      refine wpAnyB_takeP (i := 5) (some 32) (Op.extract (Operand.tmp 27) 0) 26 (v := ?_) ⟨_, rfl, rfl, rfl, rfl, rfl⟩ (by kernel_rfl) (by kernel_rfl) (by kernel_rfl) (by kernel_rfl) (fun _ _ _ h => h) (fun h => absurd (h.symm.trans (by kernel_rfl : _ = true)) (by decide)) (fun w' => ?_) ?_
      rotate_left
      · unfold bareOp
        go_simp
        try with_reducible rfl
      simp only [Act.put, List.setIfInBounds_toArray, List.set_cons_zero, List.set_cons_succ]
      refine wpAnyB_takeP (i := 6) (some 33) (Op.extract (Operand.tmp 27) 1) 30 (v := ?_) ⟨_, rfl, rfl, rfl, rfl, rfl⟩ (by kernel_rfl) (by kernel_rfl) (by kernel_rfl) (by kernel_rfl) (fun _ _ _ h => h) (fun h => absurd (h.symm.trans (by kernel_rfl : _ = true)) (by decide)) (fun w' => ?_) ?_
      rotate_left
      · unfold bareOp
        go_simp
        try with_reducible rfl
      simp only [Act.put, List.setIfInBounds_toArray, List.set_cons_zero, List.set_cons_succ]
      refine wpAnyB_only (i := 7) (some 7) (Op.alloc 26) 0 ⟨_, rfl, rfl, rfl, rfl, rfl⟩ (by kernel_rfl) (fun K hK => ?_)
      unfold bareOp
      go_wp2_with fail
      refine hK.out _ _ (fun h => absurd (h.symm.trans (by kernel_rfl : _ = true)) (by decide)) ?_
      clear hK K
      try simp only [Act.put, List.setIfInBounds_toArray, List.set_cons_zero, List.set_cons_succ]
      refine wpAnyB_only (i := 8) none (Op.store 26 (Operand.tmp 7) (Operand.tmp 32)) 0 ⟨_, rfl, rfl, rfl, rfl, rfl⟩ (by kernel_rfl) (fun K hK => ?_)
      unfold bareOp
      go_wp2_with fail
      refine hK.out _ _ (fun h => absurd (h.symm.trans (by kernel_rfl : _ = true)) (by decide)) ?_
      clear hK K
      try simp only [Act.put, List.setIfInBounds_toArray, List.set_cons_zero, List.set_cons_succ]
      refine wpAnyB_takeP (i := 9) (some 8) (Op.assign (Operand.tmp 33)) 30 (v := ?_) ⟨_, rfl, rfl, rfl, rfl, rfl⟩ (by kernel_rfl) (by kernel_rfl) (by kernel_rfl) (by kernel_rfl) (fun _ _ _ h => h) (fun h => absurd (h.symm.trans (by kernel_rfl : _ = true)) (by decide)) (fun w' => ?_) ?_
      rotate_left
      · unfold bareOp
        go_simp
        try with_reducible rfl
      simp only [Act.put, List.setIfInBounds_toArray, List.set_cons_zero, List.set_cons_succ]
      refine wpAnyB_done (by kernel_rfl) ?_ _
      replace F_c := Lib.hid (F_c.out.alloc (.cells #[.int .u64 2, .int .u64 6] 26))
      replace F_d := Lib.hid (F_d.out.alloc (.cells #[.int .u64 2, .int .u64 6] 26))
      have F_s := Lib.hid (Pair.new w8 2 6 26)
      replace HBW := Lib.hid (HBW.out.alloc HBW.out.size (.cells #[.int .u64 2, .int .u64 6] 26))
      obtain ⟨x0a, x0b, x0c, x0d, -⟩ := id F_c.out
      obtain ⟨x1a, x1b, x1c, x1d, -⟩ := id F_d.out
      obtain ⟨x2a, x2b, x2c, x2d, -⟩ := id F_s.out
      go_wp2_with fail
      clear x0a x0b x0c x0d x1a x1b x1c x1d x2a x2b x2c x2d
      replace F_c := Lib.hid F_c.out.drew
      replace F_d := Lib.hid F_d.out.drew
      replace F_s := Lib.hid F_s.out.drew
      replace HBW := Lib.hid HBW.out.drew
      have hS := F_s.out.s
      refine wp_region_stage 2 (fun w' => SPair w' (w8.heap.size) 2 6) (by kernel_rfl) ?_
      refine wpAnyB_take (i := 1) (some 36) (Op.load 26 (Operand.tmp 7)) 26 (v := ?_) ⟨_, rfl, rfl, rfl, rfl, rfl⟩ (by kernel_rfl) (by kernel_rfl) (by kernel_rfl) [2] (by kernel_rfl) (fun _ _ _ h => h) hS (fun w' hSw => ?_) ?_
      rotate_left
      · obtain ⟨s0, s1⟩ := hSw
        unfold bareOp
        go_simp
        try with_reducible rfl
      simp only [Act.put, List.setIfInBounds_toArray, List.set_cons_zero, List.set_cons_succ]
      refine wpAnyB_only (i := 0) (some 35) (Op.call { callee := Callee.value (Operand.func 33), args := #[], argTypes := #[] }) 24 ⟨_, rfl, rfl, rfl, rfl, rfl⟩ (by kernel_rfl) (fun K hK => ?_)
      unfold bareOp
      go_wp2_with (go_at_call 33; refine (small_any _).mono ?_; rintro e w9 ⟨rfl, hb9⟩)
      replace F_c := Lib.hid (F_c.out.keep hb9)
      replace F_d := Lib.hid (F_d.out.keep hb9)
      replace F_s := Lib.hid (F_s.out.keep hb9)
      replace HBW := Lib.hid (HBW.out.trans (hb9.mono HBW.out.size))
      replace hS := F_s.out.s
      clear hb9
      refine hK.out _ _ (fun _ => hS) ?_
      clear hK K
      try simp only [Act.put, List.setIfInBounds_toArray, List.set_cons_zero, List.set_cons_succ]
      refine wpAnyB_only (i := 2) (some 37) (Op.call { callee := Callee.value (Operand.func 27), args := #[Operand.tmp 35, Operand.const (Value.int IntKind.u64 3), Operand.tmp 36, Operand.const (Value.int IntKind.i64 10)], argTypes := #[24, 22, 26, 3] }) 53 ⟨_, rfl, rfl, rfl, rfl, rfl⟩ (by kernel_rfl) (fun K hK => ?_)
      unfold bareOp
      go_wp2_with (go_at_call 27; refine (edecrypt_gen _ (by decide) (by decide) (by decide) (by decide) (by decide) (by decide) decS2).mono ?_; rintro e w10 ⟨rfl, hb10⟩)
      replace F_c := Lib.hid (F_c.out.keep hb10)
      replace F_d := Lib.hid (F_d.out.keep hb10)
      replace F_s := Lib.hid (F_s.out.keep hb10)
      replace HBW := Lib.hid (HBW.out.trans (hb10.mono HBW.out.size))
      replace hS := F_s.out.s
      clear hb10
      refine hK.out _ _ (fun h => absurd (h.symm.trans (by kernel_rfl : _ = true)) (by decide)) ?_
      clear hK K
      try simp only [Act.put, List.setIfInBounds_toArray, List.set_cons_zero, List.set_cons_succ]
      refine wpAnyB_takeP (i := 3) (some 34) (Op.move (Operand.tmp 37)) 53 (v := ?_) ⟨_, rfl, rfl, rfl, rfl, rfl⟩ (by kernel_rfl) (by kernel_rfl) (by kernel_rfl) (by kernel_rfl) (fun _ _ _ h => h) (fun h => absurd (h.symm.trans (by kernel_rfl : _ = true)) (by decide)) (fun w' => ?_) ?_
      rotate_left
      · unfold bareOp
        go_simp
        try with_reducible rfl
      simp only [Act.put, List.setIfInBounds_toArray, List.set_cons_zero, List.set_cons_succ]
      refine wpAnyB_takeP (i := 4) (some 38) (Op.extract (Operand.tmp 34) 0) 3 (v := ?_) ⟨_, rfl, rfl, rfl, rfl, rfl⟩ (by kernel_rfl) (by kernel_rfl) (by kernel_rfl) (by kernel_rfl) (fun _ _ _ h => h) (fun h => absurd (h.symm.trans (by kernel_rfl : _ = true)) (by decide)) (fun w' => ?_) ?_
      rotate_left
      · unfold bareOp
        go_simp
        try with_reducible rfl
      simp only [Act.put, List.setIfInBounds_toArray, List.set_cons_zero, List.set_cons_succ]
      refine wpAnyB_takeP (i := 5) (some 39) (Op.extract (Operand.tmp 34) 1) 30 (v := ?_) ⟨_, rfl, rfl, rfl, rfl, rfl⟩ (by kernel_rfl) (by kernel_rfl) (by kernel_rfl) (by kernel_rfl) (fun _ _ _ h => h) (fun h => absurd (h.symm.trans (by kernel_rfl : _ = true)) (by decide)) (fun w' => ?_) ?_
      rotate_left
      · unfold bareOp
        go_simp
        try with_reducible rfl
      simp only [Act.put, List.setIfInBounds_toArray, List.set_cons_zero, List.set_cons_succ]
      refine wpAnyB_takeP (i := 6) (some 9) (Op.assign (Operand.tmp 38)) 3 (v := ?_) ⟨_, rfl, rfl, rfl, rfl, rfl⟩ (by kernel_rfl) (by kernel_rfl) (by kernel_rfl) (by kernel_rfl) (fun _ _ _ h => h) (fun h => absurd (h.symm.trans (by kernel_rfl : _ = true)) (by decide)) (fun w' => ?_) ?_
      rotate_left
      · unfold bareOp
        go_simp
        try with_reducible rfl
      simp only [Act.put, List.setIfInBounds_toArray, List.set_cons_zero, List.set_cons_succ]
      refine wpAnyB_takeP (i := 7) (some 10) (Op.assign (Operand.tmp 39)) 30 (v := ?_) ⟨_, rfl, rfl, rfl, rfl, rfl⟩ (by kernel_rfl) (by kernel_rfl) (by kernel_rfl) (by kernel_rfl) (fun _ _ _ h => h) (fun h => absurd (h.symm.trans (by kernel_rfl : _ = true)) (by decide)) (fun w' => ?_) ?_
      rotate_left
      · unfold bareOp
        go_simp
        try with_reducible rfl
      simp only [Act.put, List.setIfInBounds_toArray, List.set_cons_zero, List.set_cons_succ]
      refine wpAnyB_done (by kernel_rfl) ?_ _
      obtain ⟨x0a, x0b, x0c, x0d, -⟩ := id F_c.out
      obtain ⟨x1a, x1b, x1c, x1d, -⟩ := id F_d.out
      obtain ⟨x2a, x2b, x2c, x2d, -⟩ := id F_s.out
      go_wp2_with fail
      clear x0a x0b x0c x0d x1a x1b x1c x1d x2a x2b x2c x2d
      refine (is_yes 12 2 _).mono ?_
      rintro e w11 ⟨rfl, hb11⟩
      replace F_c := Lib.hid (F_c.out.keep hb11)
      replace F_d := Lib.hid (F_d.out.keep hb11)
      replace F_s := Lib.hid (F_s.out.keep hb11)
      replace HBW := Lib.hid (HBW.out.trans (hb11.mono HBW.out.size))
      clear hb11
      obtain ⟨x0a, x0b, x0c, x0d, -⟩ := id F_c.out
      obtain ⟨x1a, x1b, x1c, x1d, -⟩ := id F_d.out
      obtain ⟨x2a, x2b, x2c, x2d, -⟩ := id F_s.out
      go_wp2_with fail
      clear x0a x0b x0c x0d x1a x1b x1c x1d x2a x2b x2c x2d
      refine (opens_yes 2 _).mono ?_
      rintro e w12 ⟨rfl, rfl⟩
      obtain ⟨x0a, x0b, x0c, x0d, -⟩ := id F_c.out
      obtain ⟨x1a, x1b, x1c, x1d, -⟩ := id F_d.out
      obtain ⟨x2a, x2b, x2c, x2d, -⟩ := id F_s.out
      go_wp2_with fail
      clear x0a x0b x0c x0d x1a x1b x1c x1d x2a x2b x2c x2d
      refine (is_yes 4 3 _).mono ?_
      rintro e w13 ⟨rfl, hb13⟩
      replace F_c := Lib.hid (F_c.out.keep hb13)
      replace F_d := Lib.hid (F_d.out.keep hb13)
      replace F_s := Lib.hid (F_s.out.keep hb13)
      replace HBW := Lib.hid (HBW.out.trans (hb13.mono HBW.out.size))
      clear hb13
      obtain ⟨x0a, x0b, x0c, x0d, -⟩ := id F_c.out
      obtain ⟨x1a, x1b, x1c, x1d, -⟩ := id F_d.out
      obtain ⟨x2a, x2b, x2c, x2d, -⟩ := id F_s.out
      go_wp2_with fail
      clear x0a x0b x0c x0d x1a x1b x1c x1d x2a x2b x2c x2d
      refine (is_yes 2 6 _).mono ?_
      rintro e w14 ⟨rfl, hb14⟩
      replace F_c := Lib.hid (F_c.out.keep hb14)
      replace F_d := Lib.hid (F_d.out.keep hb14)
      replace F_s := Lib.hid (F_s.out.keep hb14)
      replace HBW := Lib.hid (HBW.out.trans (hb14.mono HBW.out.size))
      clear hb14
      obtain ⟨x0a, x0b, x0c, x0d, -⟩ := id F_c.out
      obtain ⟨x1a, x1b, x1c, x1d, -⟩ := id F_d.out
      obtain ⟨x2a, x2b, x2c, x2d, -⟩ := id F_s.out
      go_wp2_with fail
      clear x0a x0b x0c x0d x1a x1b x1c x1d x2a x2b x2c x2d
      refine (opens_yes 3 _).mono ?_
      rintro e w15 ⟨rfl, rfl⟩
      obtain ⟨x0a, x0b, x0c, x0d, -⟩ := id F_c.out
      obtain ⟨x1a, x1b, x1c, x1d, -⟩ := id F_d.out
      obtain ⟨x2a, x2b, x2c, x2d, -⟩ := id F_s.out
      go_wp2_with fail
      go_ret
      exact ⟨rfl, HBW.out⟩
    · skip
      unfold bareOp
      go_wp2_with fail
      have ltB : w.heap.size ≤ w7.heap.size := by have h := HBW.out.size; (try simp only [World.size_alloc, World.size_drew] at h); omega
      have ne_c : w7.heap.size ≠ w2.heap.size := by have h := F_c.out.lt; (try simp only [World.size_alloc, World.size_drew] at h); omega
      replace F_c := Lib.hid (F_c.out.alloc (.cells #[.int .u64 0, .int .u64 0] 26))
      have ne_d : w7.heap.size ≠ w6.heap.size := by have h := F_d.out.lt; (try simp only [World.size_alloc, World.size_drew] at h); omega
      replace F_d := Lib.hid (F_d.out.alloc (.cells #[.int .u64 0, .int .u64 0] 26))
      have F_s := Lib.hid (Pair.at w7 0 0 26 (w7.heap.size) (by simp))
      replace HBW := Lib.hid (HBW.out.alloc HBW.out.size (.cells #[.int .u64 0, .int .u64 0] 26))
      replace hS := And.intro F_c.out.s F_d.out.s
      refine hK.out _ _ (fun _ => hS) ?_
      clear hK K
      try simp only [Act.put, List.setIfInBounds_toArray, List.set_cons_zero, List.set_cons_succ]
      refine wpAnyB_only (i := 3) (some 31) (Op.call { callee := Callee.value (Operand.func 13), args := #[Operand.tmp 28, Operand.tmp 29, Operand.tmp 30], argTypes := #[24, 26, 26] }) 31 ⟨_, rfl, rfl, rfl, rfl, rfl⟩ (by kernel_rfl) (fun K hK => ?_)
      unfold bareOp
      go_wp2_with (go_at_call 13; refine (eAdd_gen _ (by decide) (by decide) (by decide) (by decide) (by decide) (by decide) (by decide) addS1).mono ?_; rintro e w8 ⟨rfl, hb8⟩)
      replace F_c := Lib.hid (F_c.out.keep hb8)
      replace F_d := Lib.hid (F_d.out.keep hb8)
      replace F_s := Lib.hid (F_s.out.keep hb8)
      replace HBW := Lib.hid (HBW.out.trans (hb8.mono HBW.out.size))
      replace hS := And.intro F_c.out.s F_d.out.s
      clear hb8
      refine hK.out _ _ (fun h => absurd (h.symm.trans (by kernel_rfl : _ = true)) (by decide)) ?_
      clear hK K
      try simp only [Act.put, List.setIfInBounds_toArray, List.set_cons_zero, List.set_cons_succ]
      refine wpAnyB_takeP (i := 4) (some 27) (Op.move (Operand.tmp 31)) 31 (v := ?_) ⟨_, rfl, rfl, rfl, rfl, rfl⟩ (by kernel_rfl) (by kernel_rfl) (by kernel_rfl) (by kernel_rfl) (fun _ _ _ h => h) (fun h => absurd (h.symm.trans (by kernel_rfl : _ = true)) (by decide)) (fun w' => ?_) ?_
      rotate_left
      · unfold bareOp
        go_simp
        try with_reducible rfl
      simp only [Act.put, List.setIfInBounds_toArray, List.set_cons_zero, List.set_cons_succ]
      refine wpAnyB_takeP (i := 5) (some 32) (Op.extract (Operand.tmp 27) 0) 26 (v := ?_) ⟨_, rfl, rfl, rfl, rfl, rfl⟩ (by kernel_rfl) (by kernel_rfl) (by kernel_rfl) (by kernel_rfl) (fun _ _ _ h => h) (fun h => absurd (h.symm.trans (by kernel_rfl : _ = true)) (by decide)) (fun w' => ?_) ?_
      rotate_left
      · unfold bareOp
        go_simp
        try with_reducible rfl
      simp only [Act.put, List.setIfInBounds_toArray, List.set_cons_zero, List.set_cons_succ]
      refine wpAnyB_takeP (i := 6) (some 33) (Op.extract (Operand.tmp 27) 1) 30 (v := ?_) ⟨_, rfl, rfl, rfl, rfl, rfl⟩ (by kernel_rfl) (by kernel_rfl) (by kernel_rfl) (by kernel_rfl) (fun _ _ _ h => h) (fun h => absurd (h.symm.trans (by kernel_rfl : _ = true)) (by decide)) (fun w' => ?_) ?_
      rotate_left
      · unfold bareOp
        go_simp
        try with_reducible rfl
      simp only [Act.put, List.setIfInBounds_toArray, List.set_cons_zero, List.set_cons_succ]
      refine wpAnyB_only (i := 8) none (Op.store 26 (Operand.tmp 7) (Operand.tmp 32)) 0 ⟨_, rfl, rfl, rfl, rfl, rfl⟩ (by kernel_rfl) (fun K hK => ?_)
      unfold bareOp
      obtain ⟨za, zb, zc, zd, -⟩ := id F_s.out
      go_wp2_with fail
      clear za zb zc zd
      refine hK.out _ _ (fun h => absurd (h.symm.trans (by kernel_rfl : _ = true)) (by decide)) ?_
      clear hK K
      try simp only [Act.put, List.setIfInBounds_toArray, List.set_cons_zero, List.set_cons_succ]
      refine wpAnyB_takeP (i := 9) (some 8) (Op.assign (Operand.tmp 33)) 30 (v := ?_) ⟨_, rfl, rfl, rfl, rfl, rfl⟩ (by kernel_rfl) (by kernel_rfl) (by kernel_rfl) (by kernel_rfl) (fun _ _ _ h => h) (fun h => absurd (h.symm.trans (by kernel_rfl : _ = true)) (by decide)) (fun w' => ?_) ?_
      rotate_left
      · unfold bareOp
        go_simp
        try with_reducible rfl
      simp only [Act.put, List.setIfInBounds_toArray, List.set_cons_zero, List.set_cons_succ]
      refine wpAnyB_done (by kernel_rfl) ?_ _
      replace F_s := Lib.hid (F_s.out.stored 2 6)
      replace F_c := Lib.hid ((F_c.out.far (o := 0) ne_c (.int .u64 2)).far (o := 1) ne_c (.int .u64 6))
      clear ne_c
      replace F_d := Lib.hid ((F_d.out.far (o := 0) ne_d (.int .u64 2)).far (o := 1) ne_d (.int .u64 6))
      clear ne_d
      replace HBW := Lib.hid ((HBW.out.setCell (p := ⟨w7.heap.size, 0, none⟩) ltB (.int .u64 2)).setCell (p := ⟨w7.heap.size, 1, none⟩) ltB (.int .u64 6))
      clear ltB
      obtain ⟨x0a, x0b, x0c, x0d, -⟩ := id F_c.out
      obtain ⟨x1a, x1b, x1c, x1d, -⟩ := id F_d.out
      obtain ⟨x2a, x2b, x2c, x2d, -⟩ := id F_s.out
      go_wp2_with fail
      clear x0a x0b x0c x0d x1a x1b x1c x1d x2a x2b x2c x2d
      replace F_c := Lib.hid F_c.out.drew
      replace F_d := Lib.hid F_d.out.drew
      replace F_s := Lib.hid F_s.out.drew
      replace HBW := Lib.hid HBW.out.drew
      have hS := F_s.out.s
      refine wp_region_stage 2 (fun w' => SPair w' (w7.heap.size) 2 6) (by kernel_rfl) ?_
      refine wpAnyB_take (i := 1) (some 36) (Op.load 26 (Operand.tmp 7)) 26 (v := ?_) ⟨_, rfl, rfl, rfl, rfl, rfl⟩ (by kernel_rfl) (by kernel_rfl) (by kernel_rfl) [2] (by kernel_rfl) (fun _ _ _ h => h) hS (fun w' hSw => ?_) ?_
      rotate_left
      · obtain ⟨s0, s1⟩ := hSw
        unfold bareOp
        go_simp
        try with_reducible rfl
      simp only [Act.put, List.setIfInBounds_toArray, List.set_cons_zero, List.set_cons_succ]
      refine wpAnyB_only (i := 0) (some 35) (Op.call { callee := Callee.value (Operand.func 33), args := #[], argTypes := #[] }) 24 ⟨_, rfl, rfl, rfl, rfl, rfl⟩ (by kernel_rfl) (fun K hK => ?_)
      unfold bareOp
      go_wp2_with (go_at_call 33; refine (small_any _).mono ?_; rintro e w9 ⟨rfl, hb9⟩)
      replace F_c := Lib.hid (F_c.out.keep hb9)
      replace F_d := Lib.hid (F_d.out.keep hb9)
      replace F_s := Lib.hid (F_s.out.keep hb9)
      replace HBW := Lib.hid (HBW.out.trans (hb9.mono HBW.out.size))
      replace hS := F_s.out.s
      clear hb9
      refine hK.out _ _ (fun _ => hS) ?_
      clear hK K
      try simp only [Act.put, List.setIfInBounds_toArray, List.set_cons_zero, List.set_cons_succ]
      refine wpAnyB_only (i := 2) (some 37) (Op.call { callee := Callee.value (Operand.func 27), args := #[Operand.tmp 35, Operand.const (Value.int IntKind.u64 3), Operand.tmp 36, Operand.const (Value.int IntKind.i64 10)], argTypes := #[24, 22, 26, 3] }) 53 ⟨_, rfl, rfl, rfl, rfl, rfl⟩ (by kernel_rfl) (fun K hK => ?_)
      unfold bareOp
      go_wp2_with (go_at_call 27; refine (edecrypt_gen _ (by decide) (by decide) (by decide) (by decide) (by decide) (by decide) decS2).mono ?_; rintro e w10 ⟨rfl, hb10⟩)
      replace F_c := Lib.hid (F_c.out.keep hb10)
      replace F_d := Lib.hid (F_d.out.keep hb10)
      replace F_s := Lib.hid (F_s.out.keep hb10)
      replace HBW := Lib.hid (HBW.out.trans (hb10.mono HBW.out.size))
      replace hS := F_s.out.s
      clear hb10
      refine hK.out _ _ (fun h => absurd (h.symm.trans (by kernel_rfl : _ = true)) (by decide)) ?_
      clear hK K
      try simp only [Act.put, List.setIfInBounds_toArray, List.set_cons_zero, List.set_cons_succ]
      refine wpAnyB_takeP (i := 3) (some 34) (Op.move (Operand.tmp 37)) 53 (v := ?_) ⟨_, rfl, rfl, rfl, rfl, rfl⟩ (by kernel_rfl) (by kernel_rfl) (by kernel_rfl) (by kernel_rfl) (fun _ _ _ h => h) (fun h => absurd (h.symm.trans (by kernel_rfl : _ = true)) (by decide)) (fun w' => ?_) ?_
      rotate_left
      · unfold bareOp
        go_simp
        try with_reducible rfl
      simp only [Act.put, List.setIfInBounds_toArray, List.set_cons_zero, List.set_cons_succ]
      refine wpAnyB_takeP (i := 4) (some 38) (Op.extract (Operand.tmp 34) 0) 3 (v := ?_) ⟨_, rfl, rfl, rfl, rfl, rfl⟩ (by kernel_rfl) (by kernel_rfl) (by kernel_rfl) (by kernel_rfl) (fun _ _ _ h => h) (fun h => absurd (h.symm.trans (by kernel_rfl : _ = true)) (by decide)) (fun w' => ?_) ?_
      rotate_left
      · unfold bareOp
        go_simp
        try with_reducible rfl
      simp only [Act.put, List.setIfInBounds_toArray, List.set_cons_zero, List.set_cons_succ]
      refine wpAnyB_takeP (i := 5) (some 39) (Op.extract (Operand.tmp 34) 1) 30 (v := ?_) ⟨_, rfl, rfl, rfl, rfl, rfl⟩ (by kernel_rfl) (by kernel_rfl) (by kernel_rfl) (by kernel_rfl) (fun _ _ _ h => h) (fun h => absurd (h.symm.trans (by kernel_rfl : _ = true)) (by decide)) (fun w' => ?_) ?_
      rotate_left
      · unfold bareOp
        go_simp
        try with_reducible rfl
      simp only [Act.put, List.setIfInBounds_toArray, List.set_cons_zero, List.set_cons_succ]
      refine wpAnyB_takeP (i := 6) (some 9) (Op.assign (Operand.tmp 38)) 3 (v := ?_) ⟨_, rfl, rfl, rfl, rfl, rfl⟩ (by kernel_rfl) (by kernel_rfl) (by kernel_rfl) (by kernel_rfl) (fun _ _ _ h => h) (fun h => absurd (h.symm.trans (by kernel_rfl : _ = true)) (by decide)) (fun w' => ?_) ?_
      rotate_left
      · unfold bareOp
        go_simp
        try with_reducible rfl
      simp only [Act.put, List.setIfInBounds_toArray, List.set_cons_zero, List.set_cons_succ]
      refine wpAnyB_takeP (i := 7) (some 10) (Op.assign (Operand.tmp 39)) 30 (v := ?_) ⟨_, rfl, rfl, rfl, rfl, rfl⟩ (by kernel_rfl) (by kernel_rfl) (by kernel_rfl) (by kernel_rfl) (fun _ _ _ h => h) (fun h => absurd (h.symm.trans (by kernel_rfl : _ = true)) (by decide)) (fun w' => ?_) ?_
      rotate_left
      · unfold bareOp
        go_simp
        try with_reducible rfl
      simp only [Act.put, List.setIfInBounds_toArray, List.set_cons_zero, List.set_cons_succ]
      refine wpAnyB_done (by kernel_rfl) ?_ _
      obtain ⟨x0a, x0b, x0c, x0d, -⟩ := id F_c.out
      obtain ⟨x1a, x1b, x1c, x1d, -⟩ := id F_d.out
      obtain ⟨x2a, x2b, x2c, x2d, -⟩ := id F_s.out
      go_wp2_with fail
      clear x0a x0b x0c x0d x1a x1b x1c x1d x2a x2b x2c x2d
      refine (is_yes 12 2 _).mono ?_
      rintro e w11 ⟨rfl, hb11⟩
      replace F_c := Lib.hid (F_c.out.keep hb11)
      replace F_d := Lib.hid (F_d.out.keep hb11)
      replace F_s := Lib.hid (F_s.out.keep hb11)
      replace HBW := Lib.hid (HBW.out.trans (hb11.mono HBW.out.size))
      clear hb11
      obtain ⟨x0a, x0b, x0c, x0d, -⟩ := id F_c.out
      obtain ⟨x1a, x1b, x1c, x1d, -⟩ := id F_d.out
      obtain ⟨x2a, x2b, x2c, x2d, -⟩ := id F_s.out
      go_wp2_with fail
      clear x0a x0b x0c x0d x1a x1b x1c x1d x2a x2b x2c x2d
      refine (opens_yes 2 _).mono ?_
      rintro e w12 ⟨rfl, rfl⟩
      obtain ⟨x0a, x0b, x0c, x0d, -⟩ := id F_c.out
      obtain ⟨x1a, x1b, x1c, x1d, -⟩ := id F_d.out
      obtain ⟨x2a, x2b, x2c, x2d, -⟩ := id F_s.out
      go_wp2_with fail
      clear x0a x0b x0c x0d x1a x1b x1c x1d x2a x2b x2c x2d
      refine (is_yes 4 3 _).mono ?_
      rintro e w13 ⟨rfl, hb13⟩
      replace F_c := Lib.hid (F_c.out.keep hb13)
      replace F_d := Lib.hid (F_d.out.keep hb13)
      replace F_s := Lib.hid (F_s.out.keep hb13)
      replace HBW := Lib.hid (HBW.out.trans (hb13.mono HBW.out.size))
      clear hb13
      obtain ⟨x0a, x0b, x0c, x0d, -⟩ := id F_c.out
      obtain ⟨x1a, x1b, x1c, x1d, -⟩ := id F_d.out
      obtain ⟨x2a, x2b, x2c, x2d, -⟩ := id F_s.out
      go_wp2_with fail
      clear x0a x0b x0c x0d x1a x1b x1c x1d x2a x2b x2c x2d
      refine (is_yes 2 6 _).mono ?_
      rintro e w14 ⟨rfl, hb14⟩
      replace F_c := Lib.hid (F_c.out.keep hb14)
      replace F_d := Lib.hid (F_d.out.keep hb14)
      replace F_s := Lib.hid (F_s.out.keep hb14)
      replace HBW := Lib.hid (HBW.out.trans (hb14.mono HBW.out.size))
      clear hb14
      obtain ⟨x0a, x0b, x0c, x0d, -⟩ := id F_c.out
      obtain ⟨x1a, x1b, x1c, x1d, -⟩ := id F_d.out
      obtain ⟨x2a, x2b, x2c, x2d, -⟩ := id F_s.out
      go_wp2_with fail
      clear x0a x0b x0c x0d x1a x1b x1c x1d x2a x2b x2c x2d
      refine (opens_yes 3 _).mono ?_
      rintro e w15 ⟨rfl, rfl⟩
      obtain ⟨x0a, x0b, x0c, x0d, -⟩ := id F_c.out
      obtain ⟨x1a, x1b, x1c, x1d, -⟩ := id F_d.out
      obtain ⟨x2a, x2b, x2c, x2d, -⟩ := id F_s.out
      go_wp2_with fail
      go_ret
      exact ⟨rfl, HBW.out⟩
  · skip
    unfold bareOp
    go_wp2_with fail
    have ltB : w.heap.size ≤ w6.heap.size + 1 := by have h := HBW.out.size; (try simp only [World.size_alloc, World.size_drew] at h); omega
    have ne_c : w6.heap.size + 1 ≠ w2.heap.size := by have h := F_c.out.lt; (try simp only [World.size_alloc, World.size_drew] at h); omega
    replace F_c := Lib.hid (F_c.out.alloc (.cells #[.int .u64 0, .int .u64 0] 26))
    have ne_d : w6.heap.size + 1 ≠ w6.heap.size := by have h := F_d.out.lt; (try simp only [World.size_alloc, World.size_drew] at h); omega
    replace F_d := Lib.hid (F_d.out.alloc (.cells #[.int .u64 0, .int .u64 0] 26))
    have F_s := Lib.hid (Pair.at ((w6.alloc (.cells #[.int .u64 4, .int .u64 3] 26)).drew) 0 0 26 (w6.heap.size + 1) (by simp))
    replace HBW := Lib.hid (HBW.out.alloc HBW.out.size (.cells #[.int .u64 0, .int .u64 0] 26))
    replace hS := And.intro F_c.out.s F_d.out.s
    refine hK.out _ _ (fun _ => hS) ?_
    clear hK K
    try simp only [Act.put, List.setIfInBounds_toArray, List.set_cons_zero, List.set_cons_succ]
    refine wpAnyB_only (i := 0) (some 28) (Op.call { callee := Callee.value (Operand.func 33), args := #[], argTypes := #[] }) 24 ⟨_, rfl, rfl, rfl, rfl, rfl⟩ (by kernel_rfl) (fun K hK => ?_)
    unfold bareOp
    go_wp2_with (go_at_call 33; refine (small_any _).mono ?_; rintro e w7 ⟨rfl, hb7⟩)
    replace F_c := Lib.hid (F_c.out.keep hb7)
    replace F_d := Lib.hid (F_d.out.keep hb7)
    replace F_s := Lib.hid (F_s.out.keep hb7)
    replace HBW := Lib.hid (HBW.out.trans (hb7.mono HBW.out.size))
    replace hS := And.intro F_c.out.s F_d.out.s
    clear hb7
    refine hK.out _ _ (fun _ => hS) ?_
    clear hK K
    try simp only [Act.put, List.setIfInBounds_toArray, List.set_cons_zero, List.set_cons_succ]
    refine wpAnyB_only (i := 3) (some 31) (Op.call { callee := Callee.value (Operand.func 13), args := #[Operand.tmp 28, Operand.tmp 29, Operand.tmp 30], argTypes := #[24, 26, 26] }) 31 ⟨_, rfl, rfl, rfl, rfl, rfl⟩ (by kernel_rfl) (fun K hK => ?_)
    unfold bareOp
    go_wp2_with (go_at_call 13; refine (eAdd_gen _ (by decide) (by decide) (by decide) (by decide) (by decide) (by decide) (by decide) addS1).mono ?_; rintro e w8 ⟨rfl, hb8⟩)
    replace F_c := Lib.hid (F_c.out.keep hb8)
    replace F_d := Lib.hid (F_d.out.keep hb8)
    replace F_s := Lib.hid (F_s.out.keep hb8)
    replace HBW := Lib.hid (HBW.out.trans (hb8.mono HBW.out.size))
    replace hS := And.intro F_c.out.s F_d.out.s
    clear hb8
    refine hK.out _ _ (fun h => absurd (h.symm.trans (by kernel_rfl : _ = true)) (by decide)) ?_
    clear hK K
    try simp only [Act.put, List.setIfInBounds_toArray, List.set_cons_zero, List.set_cons_succ]
    refine wpAnyB_takeP (i := 4) (some 27) (Op.move (Operand.tmp 31)) 31 (v := ?_) ⟨_, rfl, rfl, rfl, rfl, rfl⟩ (by kernel_rfl) (by kernel_rfl) (by kernel_rfl) (by kernel_rfl) (fun _ _ _ h => h) (fun h => absurd (h.symm.trans (by kernel_rfl : _ = true)) (by decide)) (fun w' => ?_) ?_
    rotate_left
    · unfold bareOp
      go_simp
      try with_reducible rfl
    simp only [Act.put, List.setIfInBounds_toArray, List.set_cons_zero, List.set_cons_succ]
    refine wpAnyB_takeP (i := 5) (some 32) (Op.extract (Operand.tmp 27) 0) 26 (v := ?_) ⟨_, rfl, rfl, rfl, rfl, rfl⟩ (by kernel_rfl) (by kernel_rfl) (by kernel_rfl) (by kernel_rfl) (fun _ _ _ h => h) (fun h => absurd (h.symm.trans (by kernel_rfl : _ = true)) (by decide)) (fun w' => ?_) ?_
    rotate_left
    · unfold bareOp
      go_simp
      try with_reducible rfl
    simp only [Act.put, List.setIfInBounds_toArray, List.set_cons_zero, List.set_cons_succ]
    refine wpAnyB_takeP (i := 6) (some 33) (Op.extract (Operand.tmp 27) 1) 30 (v := ?_) ⟨_, rfl, rfl, rfl, rfl, rfl⟩ (by kernel_rfl) (by kernel_rfl) (by kernel_rfl) (by kernel_rfl) (fun _ _ _ h => h) (fun h => absurd (h.symm.trans (by kernel_rfl : _ = true)) (by decide)) (fun w' => ?_) ?_
    rotate_left
    · unfold bareOp
      go_simp
      try with_reducible rfl
    simp only [Act.put, List.setIfInBounds_toArray, List.set_cons_zero, List.set_cons_succ]
    refine wpAnyB_only (i := 8) none (Op.store 26 (Operand.tmp 7) (Operand.tmp 32)) 0 ⟨_, rfl, rfl, rfl, rfl, rfl⟩ (by kernel_rfl) (fun K hK => ?_)
    unfold bareOp
    obtain ⟨za, zb, zc, zd, -⟩ := id F_s.out
    go_wp2_with fail
    clear za zb zc zd
    refine hK.out _ _ (fun h => absurd (h.symm.trans (by kernel_rfl : _ = true)) (by decide)) ?_
    clear hK K
    try simp only [Act.put, List.setIfInBounds_toArray, List.set_cons_zero, List.set_cons_succ]
    refine wpAnyB_takeP (i := 9) (some 8) (Op.assign (Operand.tmp 33)) 30 (v := ?_) ⟨_, rfl, rfl, rfl, rfl, rfl⟩ (by kernel_rfl) (by kernel_rfl) (by kernel_rfl) (by kernel_rfl) (fun _ _ _ h => h) (fun h => absurd (h.symm.trans (by kernel_rfl : _ = true)) (by decide)) (fun w' => ?_) ?_
    rotate_left
    · unfold bareOp
      go_simp
      try with_reducible rfl
    simp only [Act.put, List.setIfInBounds_toArray, List.set_cons_zero, List.set_cons_succ]
    refine wpAnyB_done (by kernel_rfl) ?_ _
    replace F_s := Lib.hid (F_s.out.stored 2 6)
    replace F_c := Lib.hid ((F_c.out.far (o := 0) ne_c (.int .u64 2)).far (o := 1) ne_c (.int .u64 6))
    clear ne_c
    replace F_d := Lib.hid ((F_d.out.far (o := 0) ne_d (.int .u64 2)).far (o := 1) ne_d (.int .u64 6))
    clear ne_d
    replace HBW := Lib.hid ((HBW.out.setCell (p := ⟨w6.heap.size + 1, 0, none⟩) ltB (.int .u64 2)).setCell (p := ⟨w6.heap.size + 1, 1, none⟩) ltB (.int .u64 6))
    clear ltB
    obtain ⟨x0a, x0b, x0c, x0d, -⟩ := id F_c.out
    obtain ⟨x1a, x1b, x1c, x1d, -⟩ := id F_d.out
    obtain ⟨x2a, x2b, x2c, x2d, -⟩ := id F_s.out
    go_wp2_with fail
    clear x0a x0b x0c x0d x1a x1b x1c x1d x2a x2b x2c x2d
    replace F_c := Lib.hid F_c.out.drew
    replace F_d := Lib.hid F_d.out.drew
    replace F_s := Lib.hid F_s.out.drew
    replace HBW := Lib.hid HBW.out.drew
    have hS := F_s.out.s
    refine wp_region_stage 2 (fun w' => SPair w' (w6.heap.size + 1) 2 6) (by kernel_rfl) ?_
    refine wpAnyB_take (i := 1) (some 36) (Op.load 26 (Operand.tmp 7)) 26 (v := ?_) ⟨_, rfl, rfl, rfl, rfl, rfl⟩ (by kernel_rfl) (by kernel_rfl) (by kernel_rfl) [2] (by kernel_rfl) (fun _ _ _ h => h) hS (fun w' hSw => ?_) ?_
    rotate_left
    · obtain ⟨s0, s1⟩ := hSw
      unfold bareOp
      go_simp
      try with_reducible rfl
    simp only [Act.put, List.setIfInBounds_toArray, List.set_cons_zero, List.set_cons_succ]
    refine wpAnyB_only (i := 0) (some 35) (Op.call { callee := Callee.value (Operand.func 33), args := #[], argTypes := #[] }) 24 ⟨_, rfl, rfl, rfl, rfl, rfl⟩ (by kernel_rfl) (fun K hK => ?_)
    unfold bareOp
    go_wp2_with (go_at_call 33; refine (small_any _).mono ?_; rintro e w9 ⟨rfl, hb9⟩)
    replace F_c := Lib.hid (F_c.out.keep hb9)
    replace F_d := Lib.hid (F_d.out.keep hb9)
    replace F_s := Lib.hid (F_s.out.keep hb9)
    replace HBW := Lib.hid (HBW.out.trans (hb9.mono HBW.out.size))
    replace hS := F_s.out.s
    clear hb9
    refine hK.out _ _ (fun _ => hS) ?_
    clear hK K
    try simp only [Act.put, List.setIfInBounds_toArray, List.set_cons_zero, List.set_cons_succ]
    refine wpAnyB_only (i := 2) (some 37) (Op.call { callee := Callee.value (Operand.func 27), args := #[Operand.tmp 35, Operand.const (Value.int IntKind.u64 3), Operand.tmp 36, Operand.const (Value.int IntKind.i64 10)], argTypes := #[24, 22, 26, 3] }) 53 ⟨_, rfl, rfl, rfl, rfl, rfl⟩ (by kernel_rfl) (fun K hK => ?_)
    unfold bareOp
    go_wp2_with (go_at_call 27; refine (edecrypt_gen _ (by decide) (by decide) (by decide) (by decide) (by decide) (by decide) decS2).mono ?_; rintro e w10 ⟨rfl, hb10⟩)
    replace F_c := Lib.hid (F_c.out.keep hb10)
    replace F_d := Lib.hid (F_d.out.keep hb10)
    replace F_s := Lib.hid (F_s.out.keep hb10)
    replace HBW := Lib.hid (HBW.out.trans (hb10.mono HBW.out.size))
    replace hS := F_s.out.s
    clear hb10
    refine hK.out _ _ (fun h => absurd (h.symm.trans (by kernel_rfl : _ = true)) (by decide)) ?_
    clear hK K
    try simp only [Act.put, List.setIfInBounds_toArray, List.set_cons_zero, List.set_cons_succ]
    refine wpAnyB_takeP (i := 3) (some 34) (Op.move (Operand.tmp 37)) 53 (v := ?_) ⟨_, rfl, rfl, rfl, rfl, rfl⟩ (by kernel_rfl) (by kernel_rfl) (by kernel_rfl) (by kernel_rfl) (fun _ _ _ h => h) (fun h => absurd (h.symm.trans (by kernel_rfl : _ = true)) (by decide)) (fun w' => ?_) ?_
    rotate_left
    · unfold bareOp
      go_simp
      try with_reducible rfl
    simp only [Act.put, List.setIfInBounds_toArray, List.set_cons_zero, List.set_cons_succ]
    refine wpAnyB_takeP (i := 4) (some 38) (Op.extract (Operand.tmp 34) 0) 3 (v := ?_) ⟨_, rfl, rfl, rfl, rfl, rfl⟩ (by kernel_rfl) (by kernel_rfl) (by kernel_rfl) (by kernel_rfl) (fun _ _ _ h => h) (fun h => absurd (h.symm.trans (by kernel_rfl : _ = true)) (by decide)) (fun w' => ?_) ?_
    rotate_left
    · unfold bareOp
      go_simp
      try with_reducible rfl
    simp only [Act.put, List.setIfInBounds_toArray, List.set_cons_zero, List.set_cons_succ]
    refine wpAnyB_takeP (i := 5) (some 39) (Op.extract (Operand.tmp 34) 1) 30 (v := ?_) ⟨_, rfl, rfl, rfl, rfl, rfl⟩ (by kernel_rfl) (by kernel_rfl) (by kernel_rfl) (by kernel_rfl) (fun _ _ _ h => h) (fun h => absurd (h.symm.trans (by kernel_rfl : _ = true)) (by decide)) (fun w' => ?_) ?_
    rotate_left
    · unfold bareOp
      go_simp
      try with_reducible rfl
    simp only [Act.put, List.setIfInBounds_toArray, List.set_cons_zero, List.set_cons_succ]
    refine wpAnyB_takeP (i := 6) (some 9) (Op.assign (Operand.tmp 38)) 3 (v := ?_) ⟨_, rfl, rfl, rfl, rfl, rfl⟩ (by kernel_rfl) (by kernel_rfl) (by kernel_rfl) (by kernel_rfl) (fun _ _ _ h => h) (fun h => absurd (h.symm.trans (by kernel_rfl : _ = true)) (by decide)) (fun w' => ?_) ?_
    rotate_left
    · unfold bareOp
      go_simp
      try with_reducible rfl
    simp only [Act.put, List.setIfInBounds_toArray, List.set_cons_zero, List.set_cons_succ]
    refine wpAnyB_takeP (i := 7) (some 10) (Op.assign (Operand.tmp 39)) 30 (v := ?_) ⟨_, rfl, rfl, rfl, rfl, rfl⟩ (by kernel_rfl) (by kernel_rfl) (by kernel_rfl) (by kernel_rfl) (fun _ _ _ h => h) (fun h => absurd (h.symm.trans (by kernel_rfl : _ = true)) (by decide)) (fun w' => ?_) ?_
    rotate_left
    · unfold bareOp
      go_simp
      try with_reducible rfl
    simp only [Act.put, List.setIfInBounds_toArray, List.set_cons_zero, List.set_cons_succ]
    refine wpAnyB_done (by kernel_rfl) ?_ _
    obtain ⟨x0a, x0b, x0c, x0d, -⟩ := id F_c.out
    obtain ⟨x1a, x1b, x1c, x1d, -⟩ := id F_d.out
    obtain ⟨x2a, x2b, x2c, x2d, -⟩ := id F_s.out
    go_wp2_with fail
    clear x0a x0b x0c x0d x1a x1b x1c x1d x2a x2b x2c x2d
    refine (is_yes 12 2 _).mono ?_
    rintro e w11 ⟨rfl, hb11⟩
    replace F_c := Lib.hid (F_c.out.keep hb11)
    replace F_d := Lib.hid (F_d.out.keep hb11)
    replace F_s := Lib.hid (F_s.out.keep hb11)
    replace HBW := Lib.hid (HBW.out.trans (hb11.mono HBW.out.size))
    clear hb11
    obtain ⟨x0a, x0b, x0c, x0d, -⟩ := id F_c.out
    obtain ⟨x1a, x1b, x1c, x1d, -⟩ := id F_d.out
    obtain ⟨x2a, x2b, x2c, x2d, -⟩ := id F_s.out
    go_wp2_with fail
    clear x0a x0b x0c x0d x1a x1b x1c x1d x2a x2b x2c x2d
    refine (opens_yes 2 _).mono ?_
    rintro e w12 ⟨rfl, rfl⟩
    obtain ⟨x0a, x0b, x0c, x0d, -⟩ := id F_c.out
    obtain ⟨x1a, x1b, x1c, x1d, -⟩ := id F_d.out
    obtain ⟨x2a, x2b, x2c, x2d, -⟩ := id F_s.out
    go_wp2_with fail
    clear x0a x0b x0c x0d x1a x1b x1c x1d x2a x2b x2c x2d
    refine (is_yes 4 3 _).mono ?_
    rintro e w13 ⟨rfl, hb13⟩
    replace F_c := Lib.hid (F_c.out.keep hb13)
    replace F_d := Lib.hid (F_d.out.keep hb13)
    replace F_s := Lib.hid (F_s.out.keep hb13)
    replace HBW := Lib.hid (HBW.out.trans (hb13.mono HBW.out.size))
    clear hb13
    obtain ⟨x0a, x0b, x0c, x0d, -⟩ := id F_c.out
    obtain ⟨x1a, x1b, x1c, x1d, -⟩ := id F_d.out
    obtain ⟨x2a, x2b, x2c, x2d, -⟩ := id F_s.out
    go_wp2_with fail
    clear x0a x0b x0c x0d x1a x1b x1c x1d x2a x2b x2c x2d
    refine (is_yes 2 6 _).mono ?_
    rintro e w14 ⟨rfl, hb14⟩
    replace F_c := Lib.hid (F_c.out.keep hb14)
    replace F_d := Lib.hid (F_d.out.keep hb14)
    replace F_s := Lib.hid (F_s.out.keep hb14)
    replace HBW := Lib.hid (HBW.out.trans (hb14.mono HBW.out.size))
    clear hb14
    obtain ⟨x0a, x0b, x0c, x0d, -⟩ := id F_c.out
    obtain ⟨x1a, x1b, x1c, x1d, -⟩ := id F_d.out
    obtain ⟨x2a, x2b, x2c, x2d, -⟩ := id F_s.out
    go_wp2_with fail
    clear x0a x0b x0c x0d x1a x1b x1c x1d x2a x2b x2c x2d
    refine (opens_yes 3 _).mono ?_
    rintro e w15 ⟨rfl, rfl⟩
    obtain ⟨x0a, x0b, x0c, x0d, -⟩ := id F_c.out
    obtain ⟨x1a, x1b, x1c, x1d, -⟩ := id F_d.out
    obtain ⟨x2a, x2b, x2c, x2d, -⟩ := id F_s.out
    go_wp2_with fail
    go_ret
    exact ⟨rfl, HBW.out⟩
end Go.Proofs.Ytffefhldfnfohaa
