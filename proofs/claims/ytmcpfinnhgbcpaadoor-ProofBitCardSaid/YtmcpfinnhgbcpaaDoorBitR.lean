/- The reference's Make, minus, Without, list, BitOf, BitProve. -/
import Derived.Test.YtmcpfinnhgbcpaaDoorBitV
namespace Go.Proofs.YtmcpfinnhgbcpaaDoor
open Go Go.RowKit Num Sha
set_option linter.unusedSimpArgs false
set_option linter.unusedVariables false


set_option maxHeartbeats 4000000 in
theorem rMake_any {P Q G y m x a b : Int} (w : World) (hH : Has P Q G) (y0 : 0 ≤ y) (yP : y < P) (m0 : 0 ≤ m) (mQ : m < Q) (x0 : 0 ≤ x) (xQ : x < Q) (ha : powm G x P = a) (hb : powm G m P * powm y x P % P = b) :
    Calls Tryd.prog 73 #[.agg #[.int .u64 P, .int .u64 Q, .int .u64 G], .int .u64 y, .int .u64 m, .int .u64 x] w fun e w' => e = .returned (.agg #[.int .u64 a, .int .u64 b]) ∧ Below w.heap.size w w' := by
  have PM : P < 2147483648 := hH.2.1
  have hP : 0 ≤ P := by have := hH.1; omega
  have hP1 : 1 < P := by have := hH.1; omega
  have hQ : 0 ≤ Q := hH.2.2.1
  have hG : 0 ≤ G := by have := hH.2.2.2.2.1; omega
  have hGP : G < P := hH.2.2.2.2.2
  have hQm : Q < 2147483648 := by have h1 := hH.2.2.2.1; have h2 := hH.2.1; omega
  have HH := Lib.hid hH
  clear hH
  have GM : G < 2147483648 := by omega
  have YM : y < 2147483648 := by omega
  have HA := Lib.hid ha
  have UX := Lib.hid (U64.of_lt x0 (by omega))
  have UM := Lib.hid (U64.of_lt m0 (by omega))
  generalize hgm : powm G m P = gm at hb
  generalize hyr : powm y x P = yr at hb
  have gm0 : 0 ≤ gm := hgm ▸ Int.emod_nonneg _ (by omega)
  have gmP : gm < P := hgm ▸ Int.emod_lt_of_pos _ (by omega)
  have yr0 : 0 ≤ yr := hyr ▸ Int.emod_nonneg _ (by omega)
  have yrP : yr < P := hyr ▸ Int.emod_lt_of_pos _ (by omega)
  have HM := Lib.hid hgm
  have HY := Lib.hid hyr
  obtain ⟨k1, k2⟩ := mul_bound gm0 (by omega) yr0 (by omega)
  have k3 := wrap_u k1 (by omega)
  have k4 : (gm * yr).tmod P = b := (tmod_u k1).trans hb
  have k5 : 0 ≤ b := hb ▸ Int.emod_nonneg _ (by omega)
  have k6 : b < P := hb ▸ Int.emod_lt_of_pos _ (by omega)
  have k7 := wrap_u k5 (by omega)
  have k8 : ¬ P = 0 := by omega
  clear ha hb hgm hyr
  have F_g := Lib.hid (show Boxed ((w.alloc (.cells #[.int .u64 P, .int .u64 Q, .int .u64 G] 24)).alloc (.cells #[.int .u64 0, .int .u64 0] 51)) (w.heap.size) P Q G from (Boxed.at _ P Q G _ (w.heap.size) (by simp)).alloc _)
  have F_r := Lib.hid (show Pair ((w.alloc (.cells #[.int .u64 P, .int .u64 Q, .int .u64 G] 24)).alloc (.cells #[.int .u64 0, .int .u64 0] 51)) (w.heap.size + 1) 0 0 from Pair.at _ 0 0 _ (w.heap.size + 1) (by simp))
  have HBW := Lib.hid (show Below w.heap.size w ((w.alloc (.cells #[.int .u64 P, .int .u64 Q, .int .u64 G] 24)).alloc (.cells #[.int .u64 0, .int .u64 0] 51)) from ((Below.refl _ _).alloc (by simp <;> omega) _).alloc (by simp <;> omega) _)
  go_enter Tryd.func73, Tryd.ntmps73
  go_wp2_with fail
  replace F_g := Lib.hid F_g.out.drew
  replace F_r := Lib.hid F_r.out.drew
  replace HBW := Lib.hid HBW.out.drew
  have hS := F_g.out.s
  refine wp_region_stage 19 (fun w' => SBox w' w.heap.size P Q G) (by kernel_rfl) ?_
  refine wpAnyB_take (i := 0) (some 9) (Op.load 24 (Operand.tmp 4)) 24 (v := ?_) ⟨_, rfl, rfl, rfl, rfl, rfl⟩ (by kernel_rfl) (by kernel_rfl) (by kernel_rfl) [4, 9, 13, 14, 17, 18, 19] (by kernel_rfl) (fun _ _ _ h => h) hS (fun w' hSw => ?_) ?_
  rotate_left
  · obtain ⟨s0, s1, s2⟩ := hSw
    unfold bareOp
    go_simp
    try with_reducible rfl
  simp only [Act.put, List.setIfInBounds_toArray, List.set_cons_zero, List.set_cons_succ]
  refine wpAnyB_takeP (i := 1) (some 10) (Op.fieldAddr 24 (Operand.tmp 4) 2) 0 (v := ?_) ⟨_, rfl, rfl, rfl, rfl, rfl⟩ (by kernel_rfl) (by kernel_rfl) (by kernel_rfl) (by kernel_rfl) (fun _ _ _ h => h) (fun _ => hS) (fun w' => ?_) ?_
  rotate_left
  · unfold bareOp
    go_simp
    try with_reducible rfl
  simp only [Act.put, List.setIfInBounds_toArray, List.set_cons_zero, List.set_cons_succ]
  refine wpAnyB_take (i := 2) (some 11) (Op.load 22 (Operand.tmp 10)) 22 (v := ?_) ⟨_, rfl, rfl, rfl, rfl, rfl⟩ (by kernel_rfl) (by kernel_rfl) (by kernel_rfl) [4, 9, 13, 14, 17, 18, 19] (by kernel_rfl) (fun _ _ _ h => h) hS (fun w' hSw => ?_) ?_
  rotate_left
  · obtain ⟨s0, s1, s2⟩ := hSw
    unfold bareOp
    go_simp
    try with_reducible rfl
  simp only [Act.put, List.setIfInBounds_toArray, List.set_cons_zero, List.set_cons_succ]
  refine wpAnyB_takeP (i := 3) (some 12) (Op.move (Operand.tmp 3)) 22 (v := ?_) ⟨_, rfl, rfl, rfl, rfl, rfl⟩ (by kernel_rfl) (by kernel_rfl) (by kernel_rfl) (by kernel_rfl) (fun _ _ _ h => h) (fun _ => hS) (fun w' => ?_) ?_
  rotate_left
  · unfold bareOp
    go_simp
    try with_reducible rfl
  simp only [Act.put, List.setIfInBounds_toArray, List.set_cons_zero, List.set_cons_succ]
  refine wpAnyB_take (i := 5) (some 14) (Op.load 24 (Operand.tmp 4)) 24 (v := ?_) ⟨_, rfl, rfl, rfl, rfl, rfl⟩ (by kernel_rfl) (by kernel_rfl) (by kernel_rfl) [9, 13, 14, 17, 18, 19] (by kernel_rfl) (fun _ _ _ h => h) hS (fun w' hSw => ?_) ?_
  rotate_left
  · obtain ⟨s0, s1, s2⟩ := hSw
    unfold bareOp
    go_simp
    try with_reducible rfl
  simp only [Act.put, List.setIfInBounds_toArray, List.set_cons_zero, List.set_cons_succ]
  refine wpAnyB_takeP (i := 6) (some 15) (Op.fieldAddr 24 (Operand.tmp 4) 2) 0 (v := ?_) ⟨_, rfl, rfl, rfl, rfl, rfl⟩ (by kernel_rfl) (by kernel_rfl) (by kernel_rfl) (by kernel_rfl) (fun _ _ _ h => h) (fun _ => hS) (fun w' => ?_) ?_
  rotate_left
  · unfold bareOp
    go_simp
    try with_reducible rfl
  simp only [Act.put, List.setIfInBounds_toArray, List.set_cons_zero, List.set_cons_succ]
  refine wpAnyB_take (i := 7) (some 16) (Op.load 22 (Operand.tmp 15)) 22 (v := ?_) ⟨_, rfl, rfl, rfl, rfl, rfl⟩ (by kernel_rfl) (by kernel_rfl) (by kernel_rfl) [9, 13, 14, 17, 18, 19] (by kernel_rfl) (fun _ _ _ h => h) hS (fun w' hSw => ?_) ?_
  rotate_left
  · obtain ⟨s0, s1, s2⟩ := hSw
    unfold bareOp
    go_simp
    try with_reducible rfl
  simp only [Act.put, List.setIfInBounds_toArray, List.set_cons_zero, List.set_cons_succ]
  refine wpAnyB_takeP (i := 8) (some 17) (Op.move (Operand.tmp 2)) 22 (v := ?_) ⟨_, rfl, rfl, rfl, rfl, rfl⟩ (by kernel_rfl) (by kernel_rfl) (by kernel_rfl) (by kernel_rfl) (fun _ _ _ h => h) (fun _ => hS) (fun w' => ?_) ?_
  rotate_left
  · unfold bareOp
    go_simp
    try with_reducible rfl
  simp only [Act.put, List.setIfInBounds_toArray, List.set_cons_zero, List.set_cons_succ]
  refine wpAnyB_take (i := 10) (some 19) (Op.load 24 (Operand.tmp 4)) 24 (v := ?_) ⟨_, rfl, rfl, rfl, rfl, rfl⟩ (by kernel_rfl) (by kernel_rfl) (by kernel_rfl) [13, 14, 17, 18, 19] (by kernel_rfl) (fun _ _ _ h => h) hS (fun w' hSw => ?_) ?_
  rotate_left
  · obtain ⟨s0, s1, s2⟩ := hSw
    unfold bareOp
    go_simp
    try with_reducible rfl
  simp only [Act.put, List.setIfInBounds_toArray, List.set_cons_zero, List.set_cons_succ]
  refine wpAnyB_takeP (i := 11) (some 20) (Op.move (Operand.tmp 1)) 22 (v := ?_) ⟨_, rfl, rfl, rfl, rfl, rfl⟩ (by kernel_rfl) (by kernel_rfl) (by kernel_rfl) (by kernel_rfl) (fun _ _ _ h => h) (fun _ => hS) (fun w' => ?_) ?_
  rotate_left
  · unfold bareOp
    go_simp
    try with_reducible rfl
  simp only [Act.put, List.setIfInBounds_toArray, List.set_cons_zero, List.set_cons_succ]
  refine wpAnyB_takeP (i := 12) (some 21) (Op.move (Operand.tmp 3)) 22 (v := ?_) ⟨_, rfl, rfl, rfl, rfl, rfl⟩ (by kernel_rfl) (by kernel_rfl) (by kernel_rfl) (by kernel_rfl) (fun _ _ _ h => h) (fun _ => hS) (fun w' => ?_) ?_
  rotate_left
  · unfold bareOp
    go_simp
    try with_reducible rfl
  simp only [Act.put, List.setIfInBounds_toArray, List.set_cons_zero, List.set_cons_succ]
  refine wpAnyB_takeP (i := 15) (some 24) (Op.fieldAddr 24 (Operand.tmp 4) 0) 0 (v := ?_) ⟨_, rfl, rfl, rfl, rfl, rfl⟩ (by kernel_rfl) (by kernel_rfl) (by kernel_rfl) (by kernel_rfl) (fun _ _ _ h => h) (fun _ => hS) (fun w' => ?_) ?_
  rotate_left
  · unfold bareOp
    go_simp
    try with_reducible rfl
  simp only [Act.put, List.setIfInBounds_toArray, List.set_cons_zero, List.set_cons_succ]
  refine wpAnyB_take (i := 16) (some 25) (Op.load 22 (Operand.tmp 24)) 22 (v := ?_) ⟨_, rfl, rfl, rfl, rfl, rfl⟩ (by kernel_rfl) (by kernel_rfl) (by kernel_rfl) [17, 18, 19] (by kernel_rfl) (fun _ _ _ h => h) hS (fun w' hSw => ?_) ?_
  rotate_left
  · obtain ⟨s0, s1, s2⟩ := hSw
    unfold bareOp
    go_simp
    try with_reducible rfl
  simp only [Act.put, List.setIfInBounds_toArray, List.set_cons_zero, List.set_cons_succ]
  refine wpAnyB_only (i := 4) (some 13) (Op.call { callee := Callee.value (Operand.func 66), args := #[Operand.tmp 9, Operand.tmp 11, Operand.tmp 12], argTypes := #[24, 22, 22] }) 22 ⟨_, rfl, rfl, rfl, rfl, rfl⟩ (by kernel_rfl) (fun K hK => ?_)
  unfold bareOp
  go_wp2_with (go_at_call 66; refine (r31Power_any _ (by omega) PM hG GM UX.out HA.out).mono ?_; rintro e w1 ⟨rfl, hb1⟩)
  replace F_g := Lib.hid (F_g.out.keep hb1)
  replace F_r := Lib.hid (F_r.out.keep hb1)
  replace HBW := Lib.hid (HBW.out.trans (hb1.mono HBW.out.size))
  replace hS := F_g.out.s
  clear hb1
  obtain ⟨z1a, z1b, z1c, z1d, -⟩ := id F_r.out
  refine hK.out _ _ (fun _ => hS) ?_
  clear hK K
  try simp only [Act.put, List.setIfInBounds_toArray, List.set_cons_zero, List.set_cons_succ]
  refine wpAnyB_only (i := 9) (some 18) (Op.call { callee := Callee.value (Operand.func 66), args := #[Operand.tmp 14, Operand.tmp 16, Operand.tmp 17], argTypes := #[24, 22, 22] }) 22 ⟨_, rfl, rfl, rfl, rfl, rfl⟩ (by kernel_rfl) (fun K hK => ?_)
  unfold bareOp
  go_wp2_with (go_at_call 66; refine (r31Power_any _ (by omega) PM hG GM UM.out HM.out).mono ?_; rintro e w2 ⟨rfl, hb2⟩)
  replace F_g := Lib.hid (F_g.out.keep hb2)
  replace F_r := Lib.hid (F_r.out.keep hb2)
  replace HBW := Lib.hid (HBW.out.trans (hb2.mono HBW.out.size))
  replace hS := F_g.out.s
  clear hb2
  obtain ⟨z2a, z2b, z2c, z2d, -⟩ := id F_r.out
  refine hK.out _ _ (fun _ => hS) ?_
  clear hK K
  try simp only [Act.put, List.setIfInBounds_toArray, List.set_cons_zero, List.set_cons_succ]
  refine wpAnyB_only (i := 13) (some 22) (Op.call { callee := Callee.value (Operand.func 66), args := #[Operand.tmp 19, Operand.tmp 20, Operand.tmp 21], argTypes := #[24, 22, 22] }) 22 ⟨_, rfl, rfl, rfl, rfl, rfl⟩ (by kernel_rfl) (fun K hK => ?_)
  unfold bareOp
  go_wp2_with (go_at_call 66; refine (r31Power_any _ (by omega) PM y0 YM UX.out HY.out).mono ?_; rintro e w3 ⟨rfl, hb3⟩)
  replace F_g := Lib.hid (F_g.out.keep hb3)
  replace F_r := Lib.hid (F_r.out.keep hb3)
  replace HBW := Lib.hid (HBW.out.trans (hb3.mono HBW.out.size))
  replace hS := F_g.out.s
  clear hb3
  obtain ⟨z3a, z3b, z3c, z3d, -⟩ := id F_r.out
  refine hK.out _ _ (fun _ => hS) ?_
  clear hK K
  try simp only [Act.put, List.setIfInBounds_toArray, List.set_cons_zero, List.set_cons_succ]
  refine wpAnyB_takeP (i := 14) (some 23) (Op.binOp BinOp.mul 22 (Operand.tmp 18) (Operand.tmp 22) 22) 22 (v := ?_) ⟨_, rfl, rfl, rfl, rfl, rfl⟩ (by kernel_rfl) (by kernel_rfl) (by kernel_rfl) (by kernel_rfl) (fun _ _ _ h => h) (fun _ => hS) (fun w' => ?_) ?_
  rotate_left
  · unfold bareOp
    go_simp
    try with_reducible rfl
  simp only [Act.put, List.setIfInBounds_toArray, List.set_cons_zero, List.set_cons_succ]
  refine wpAnyB_takeP (i := 17) (some 26) (Op.binOp BinOp.rem 22 (Operand.tmp 23) (Operand.tmp 25) 22) 22 (v := ?_) ⟨_, rfl, rfl, rfl, rfl, rfl⟩ (by kernel_rfl) (by kernel_rfl) (by kernel_rfl) (by kernel_rfl) (fun _ _ _ h => h) (fun _ => hS) (fun w' => ?_) ?_
  rotate_left
  · unfold bareOp
    go_simp
    try with_reducible rfl
  simp only [Act.put, List.setIfInBounds_toArray, List.set_cons_zero, List.set_cons_succ]
  refine wpAnyB_takeP (i := 18) (some 27) (Op.build 51 #[(0, Operand.tmp 13), (1, Operand.tmp 26)]) 51 (v := ?_) ⟨_, rfl, rfl, rfl, rfl, rfl⟩ (by kernel_rfl) (by kernel_rfl) (by kernel_rfl) (by kernel_rfl) (fun _ _ _ h => h) (fun _ => hS) (fun w' => ?_) ?_
  rotate_left
  · unfold bareOp
    go_simp
    try with_reducible rfl
  simp only [Act.put, List.setIfInBounds_toArray, List.set_cons_zero, List.set_cons_succ]
  refine wpAnyB_only (i := 19) none (Op.store 51 (Operand.tmp 8) (Operand.tmp 27)) 0 ⟨_, rfl, rfl, rfl, rfl, rfl⟩ (by kernel_rfl) (fun K hK => ?_)
  unfold bareOp
  go_wp2_with fail
  refine hK.out _ _ (fun h => absurd (h.symm.trans (by kernel_rfl : _ = true)) (by decide)) ?_
  clear hK K
  try simp only [Act.put, List.setIfInBounds_toArray, List.set_cons_zero, List.set_cons_succ]
  refine wpAnyB_done (by kernel_rfl) ?_ _
  go_wp2_with fail
  exact bodyPost_ret (res_alone rfl (F_r.out.stored a b) _ rfl) rfl ⟨rfl, (HBW.out.setCell (by simp <;> omega) _).setCell (by simp <;> omega) _⟩

set_option maxHeartbeats 1000000 in
theorem rminus_any {P Q G x v : Int} (w : World) (hH : Has P Q G) (x0 : 0 ≤ x) (xQ : x < Q) (hv : (0 - x) % Q = v) :
    Calls Tryd.prog 74 #[.agg #[.int .u64 P, .int .u64 Q, .int .u64 G], .int .u64 x] w fun e w' => e = .returned (.int .u64 v) ∧ Below w.heap.size w w' := by
  have HV := Lib.hid hv
  clear hv
  obtain ⟨p5, p3, hQ', pq, g2, gP⟩ := id hH
  have hP1 : 1 ≤ P := by omega
  have hGM : G < 2147483648 := by omega
  have q3 : Q < 1073741824 := by omega
  have q2 : 2 ≤ Q := by omega
  have HH := Lib.hid hH
  clear hH pq
  have F_g := Lib.hid (show Boxed (w.alloc (.cells #[.int .u64 P, .int .u64 Q, .int .u64 G] 24)) (w.heap.size) P Q G from Boxed.at _ P Q G _ (w.heap.size) (by simp))
  have HBW := Lib.hid (show Below w.heap.size w (w.alloc (.cells #[.int .u64 P, .int .u64 Q, .int .u64 G] 24)) from (Below.refl _ _).alloc (by simp <;> omega) _)
  go_enter Tryd.func74, Tryd.ntmps74
  obtain ⟨x0a, x0b, x0c, -⟩ := id F_g.out
  go_wp2_with fail
  clear x0a x0b x0c
  refine (rDiff_gen _ HH.out (by omega) (by omega) x0 xQ HV.out).mono ?_
  rintro e w1 ⟨rfl, hb1⟩
  replace F_g := Lib.hid (F_g.out.keep hb1)
  replace HBW := Lib.hid (HBW.out.trans (hb1.mono HBW.out.size))
  clear hb1
  obtain ⟨x0a, x0b, x0c, -⟩ := id F_g.out
  go_wp2_with fail
  go_ret
  exact ⟨rfl, HBW.out⟩

set_option maxRecDepth 100000 in
set_option maxHeartbeats 4000000 in
theorem rWithout0_any {P Q G a b nn pw v : Int} (w : World) (hH : Has P Q G) (b0 : 0 ≤ b) (bP : b < P) (hn : (0 - 0) % Q = nn) (hp : powm G nn P = pw) (hv : b * pw % P = v) :
    Calls Tryd.prog 75 #[.agg #[.int .u64 P, .int .u64 Q, .int .u64 G], .agg #[.int .u64 a, .int .u64 b], .int .i64 0] w fun e w' => e = .returned (.int .u64 v) ∧ Below w.heap.size w w' := by
  obtain ⟨p5, p3, hQ', pq, g2, gP⟩ := id hH
  have hP1 : 1 ≤ P := by omega
  have hGM : G < 2147483648 := by omega
  have q3 : Q < 1073741824 := by omega
  have q2 : 2 ≤ Q := by omega
  have HH := Lib.hid hH
  clear hH pq
  have hG : 0 ≤ G := by omega
  have PM : P < 2147483648 := by omega
  have GM : G < 2147483648 := by omega
  have n0 : 0 ≤ nn := by rw [← hn]; exact Int.emod_nonneg _ (by omega)
  have nQ : nn < Q := by rw [← hn]; exact Int.emod_lt_of_pos _ (by omega)
  have pw0 : 0 ≤ pw := by rw [← hp]; exact powm_nonneg (by omega)
  have pwP : pw < P := by rw [← hp]; exact powm_lt (by omega)
  have UN := Lib.hid (U64.of_lt n0 (by omega))
  have HMN := Lib.hid hn
  have HPW := Lib.hid hp
  obtain ⟨k1, k2⟩ := mul_bound b0 (by omega) pw0 (by omega)
  have k3 := wrap_u k1 (by omega)
  have k4 : (b * pw).tmod P = v := (tmod_u k1).trans hv
  have k5 : 0 ≤ v := hv ▸ Int.emod_nonneg _ (by omega)
  have k6 : v < P := hv ▸ Int.emod_lt_of_pos _ (by omega)
  have k7 := wrap_u k5 (by omega)
  have k8 : ¬ P = 0 := by omega
  have k9 : ¬ Q = 0 := by omega
  have ka : (1 : Int).tmod Q = 1 := by rw [tmod_u (by omega)]; exact Int.emod_eq_of_lt (by omega) (by omega)
  have kb : (1 : Int) % Q = 1 := Int.emod_eq_of_lt (by omega) (by omega)
  have HMQ := Lib.hid (show (0 - 1 % Q) % Q = (0 - 1) % Q by rw [kb])
  clear hn hp hv
  have F_g := Lib.hid (show Boxed ((w.alloc (.cells #[.int .u64 P, .int .u64 Q, .int .u64 G] 24)).alloc (.cells #[.int .u64 a, .int .u64 b] 51)) (w.heap.size) P Q G from (Boxed.at _ P Q G _ (w.heap.size) (by simp)).alloc _)
  have F_s := Lib.hid (show Pair ((w.alloc (.cells #[.int .u64 P, .int .u64 Q, .int .u64 G] 24)).alloc (.cells #[.int .u64 a, .int .u64 b] 51)) (w.heap.size + 1) a b from Pair.at _ a b _ (w.heap.size + 1) (by simp))
  have HBW := Lib.hid (show Below w.heap.size w ((w.alloc (.cells #[.int .u64 P, .int .u64 Q, .int .u64 G] 24)).alloc (.cells #[.int .u64 a, .int .u64 b] 51)) from ((Below.refl _ _).alloc (by simp <;> omega) _).alloc (by simp <;> omega) _)
  go_enter Tryd.func75, Tryd.ntmps75
  obtain ⟨x0a, x0b, x0c, -⟩ := id F_g.out
  obtain ⟨x1a, x1b, x1c, x1d, -⟩ := id F_s.out
  go_wp2_with fail
  clear x0a x0b x0c x1a x1b x1c x1d
  replace F_g := Lib.hid F_g.out.drew
  replace F_s := Lib.hid F_s.out.drew
  replace HBW := Lib.hid HBW.out.drew
  have hS := And.intro F_g.out.s F_s.out.s
  refine wp_region_stage 17 (fun w' => SBox w' w.heap.size P Q G ∧ SPair w' (w.heap.size + 1) a b) (by kernel_rfl) ?_
  refine wpAnyB_takeP (i := 0) (some 7) (Op.fieldAddr 51 (Operand.tmp 4) 1) 0 (v := ?_) ⟨_, rfl, rfl, rfl, rfl, rfl⟩ (by kernel_rfl) (by kernel_rfl) (by kernel_rfl) (by kernel_rfl) (fun _ _ _ h => h) (fun _ => hS) (fun w' => ?_) ?_
  rotate_left
  · unfold bareOp
    go_simp
    try with_reducible rfl
  simp only [Act.put, List.setIfInBounds_toArray, List.set_cons_zero, List.set_cons_succ]
  refine wpAnyB_take (i := 1) (some 8) (Op.load 22 (Operand.tmp 7)) 22 (v := ?_) ⟨_, rfl, rfl, rfl, rfl, rfl⟩ (by kernel_rfl) (by kernel_rfl) (by kernel_rfl) [13, 16, 17] (by kernel_rfl) (fun _ _ _ h => h) hS (fun w' hSw => ?_) ?_
  rotate_left
  · obtain ⟨⟨s0, s1, s2⟩, ⟨s3, s4⟩⟩ := hSw
    unfold bareOp
    go_simp
    try with_reducible rfl
  simp only [Act.put, List.setIfInBounds_toArray, List.set_cons_zero, List.set_cons_succ]
  refine wpAnyB_take (i := 2) (some 9) (Op.load 24 (Operand.tmp 3)) 24 (v := ?_) ⟨_, rfl, rfl, rfl, rfl, rfl⟩ (by kernel_rfl) (by kernel_rfl) (by kernel_rfl) [12, 13, 16, 17] (by kernel_rfl) (fun _ _ _ h => h) hS (fun w' hSw => ?_) ?_
  rotate_left
  · obtain ⟨⟨s0, s1, s2⟩, ⟨s3, s4⟩⟩ := hSw
    unfold bareOp
    go_simp
    try with_reducible rfl
  simp only [Act.put, List.setIfInBounds_toArray, List.set_cons_zero, List.set_cons_succ]
  refine wpAnyB_takeP (i := 3) (some 10) (Op.fieldAddr 24 (Operand.tmp 3) 2) 0 (v := ?_) ⟨_, rfl, rfl, rfl, rfl, rfl⟩ (by kernel_rfl) (by kernel_rfl) (by kernel_rfl) (by kernel_rfl) (fun _ _ _ h => h) (fun _ => hS) (fun w' => ?_) ?_
  rotate_left
  · unfold bareOp
    go_simp
    try with_reducible rfl
  simp only [Act.put, List.setIfInBounds_toArray, List.set_cons_zero, List.set_cons_succ]
  refine wpAnyB_take (i := 4) (some 11) (Op.load 22 (Operand.tmp 10)) 22 (v := ?_) ⟨_, rfl, rfl, rfl, rfl, rfl⟩ (by kernel_rfl) (by kernel_rfl) (by kernel_rfl) [12, 13, 16, 17] (by kernel_rfl) (fun _ _ _ h => h) hS (fun w' hSw => ?_) ?_
  rotate_left
  · obtain ⟨⟨s0, s1, s2⟩, ⟨s3, s4⟩⟩ := hSw
    unfold bareOp
    go_simp
    try with_reducible rfl
  simp only [Act.put, List.setIfInBounds_toArray, List.set_cons_zero, List.set_cons_succ]
  refine wpAnyB_take (i := 5) (some 12) (Op.load 24 (Operand.tmp 3)) 24 (v := ?_) ⟨_, rfl, rfl, rfl, rfl, rfl⟩ (by kernel_rfl) (by kernel_rfl) (by kernel_rfl) [11, 12, 13, 16, 17] (by kernel_rfl) (fun _ _ _ h => h) hS (fun w' hSw => ?_) ?_
  rotate_left
  · obtain ⟨⟨s0, s1, s2⟩, ⟨s3, s4⟩⟩ := hSw
    unfold bareOp
    go_simp
    try with_reducible rfl
  simp only [Act.put, List.setIfInBounds_toArray, List.set_cons_zero, List.set_cons_succ]
  refine wpAnyB_takeP (i := 6) (some 13) (Op.move (Operand.tmp 2)) 3 (v := ?_) ⟨_, rfl, rfl, rfl, rfl, rfl⟩ (by kernel_rfl) (by kernel_rfl) (by kernel_rfl) (by kernel_rfl) (fun _ _ _ h => h) (fun _ => hS) (fun w' => ?_) ?_
  rotate_left
  · unfold bareOp
    go_simp
    try with_reducible rfl
  simp only [Act.put, List.setIfInBounds_toArray, List.set_cons_zero, List.set_cons_succ]
  refine wpAnyB_takeP (i := 7) (some 14) (Op.convert 3 22 (Operand.tmp 13)) 22 (v := ?_) ⟨_, rfl, rfl, rfl, rfl, rfl⟩ (by kernel_rfl) (by kernel_rfl) (by kernel_rfl) (by kernel_rfl) (fun _ _ _ h => h) (fun _ => hS) (fun w' => ?_) ?_
  rotate_left
  · unfold bareOp
    go_simp
    try with_reducible rfl
  simp only [Act.put, List.setIfInBounds_toArray, List.set_cons_zero, List.set_cons_succ]
  refine wpAnyB_takeP (i := 8) (some 15) (Op.fieldAddr 24 (Operand.tmp 3) 1) 0 (v := ?_) ⟨_, rfl, rfl, rfl, rfl, rfl⟩ (by kernel_rfl) (by kernel_rfl) (by kernel_rfl) (by kernel_rfl) (fun _ _ _ h => h) (fun _ => hS) (fun w' => ?_) ?_
  rotate_left
  · unfold bareOp
    go_simp
    try with_reducible rfl
  simp only [Act.put, List.setIfInBounds_toArray, List.set_cons_zero, List.set_cons_succ]
  refine wpAnyB_take (i := 9) (some 16) (Op.load 22 (Operand.tmp 15)) 22 (v := ?_) ⟨_, rfl, rfl, rfl, rfl, rfl⟩ (by kernel_rfl) (by kernel_rfl) (by kernel_rfl) [10, 11, 12, 13, 16, 17] (by kernel_rfl) (fun _ _ _ h => h) hS (fun w' hSw => ?_) ?_
  rotate_left
  · obtain ⟨⟨s0, s1, s2⟩, ⟨s3, s4⟩⟩ := hSw
    unfold bareOp
    go_simp
    try with_reducible rfl
  simp only [Act.put, List.setIfInBounds_toArray, List.set_cons_zero, List.set_cons_succ]
  refine wpAnyB_takeP (i := 10) (some 17) (Op.binOp BinOp.rem 22 (Operand.tmp 14) (Operand.tmp 16) 22) 22 (v := ?_) ⟨_, rfl, rfl, rfl, rfl, rfl⟩ (by kernel_rfl) (by kernel_rfl) (by kernel_rfl) (by kernel_rfl) (fun _ _ _ h => h) (fun _ => hS) (fun w' => ?_) ?_
  rotate_left
  · unfold bareOp
    go_simp
    try with_reducible rfl
  simp only [Act.put, List.setIfInBounds_toArray, List.set_cons_zero, List.set_cons_succ]
  refine wpAnyB_takeP (i := 14) (some 21) (Op.fieldAddr 24 (Operand.tmp 3) 0) 0 (v := ?_) ⟨_, rfl, rfl, rfl, rfl, rfl⟩ (by kernel_rfl) (by kernel_rfl) (by kernel_rfl) (by kernel_rfl) (fun _ _ _ h => h) (fun _ => hS) (fun w' => ?_) ?_
  rotate_left
  · unfold bareOp
    go_simp
    try with_reducible rfl
  simp only [Act.put, List.setIfInBounds_toArray, List.set_cons_zero, List.set_cons_succ]
  refine wpAnyB_take (i := 15) (some 22) (Op.load 22 (Operand.tmp 21)) 22 (v := ?_) ⟨_, rfl, rfl, rfl, rfl, rfl⟩ (by kernel_rfl) (by kernel_rfl) (by kernel_rfl) [16, 17] (by kernel_rfl) (fun _ _ _ h => h) hS (fun w' hSw => ?_) ?_
  rotate_left
  · obtain ⟨⟨s0, s1, s2⟩, ⟨s3, s4⟩⟩ := hSw
    unfold bareOp
    go_simp
    try with_reducible rfl
  simp only [Act.put, List.setIfInBounds_toArray, List.set_cons_zero, List.set_cons_succ]
  refine wpAnyB_only (i := 11) (some 18) (Op.call { callee := Callee.value (Operand.func 74), args := #[Operand.tmp 12, Operand.tmp 17], argTypes := #[24, 22] }) 22 ⟨_, rfl, rfl, rfl, rfl, rfl⟩ (by kernel_rfl) (fun K hK => ?_)
  unfold bareOp
  go_wp2_with (go_at_call 74; refine (rminus_any _ HH.out (by omega) (by omega) HMN.out).mono ?_; rintro e w1 ⟨rfl, hb1⟩)
  replace F_g := Lib.hid (F_g.out.keep hb1)
  replace F_s := Lib.hid (F_s.out.keep hb1)
  replace HBW := Lib.hid (HBW.out.trans (hb1.mono HBW.out.size))
  replace hS := And.intro F_g.out.s F_s.out.s
  clear hb1
  refine hK.out _ _ (fun _ => hS) ?_
  clear hK K
  try simp only [Act.put, List.setIfInBounds_toArray, List.set_cons_zero, List.set_cons_succ]
  refine wpAnyB_only (i := 12) (some 19) (Op.call { callee := Callee.value (Operand.func 66), args := #[Operand.tmp 9, Operand.tmp 11, Operand.tmp 18], argTypes := #[24, 22, 22] }) 22 ⟨_, rfl, rfl, rfl, rfl, rfl⟩ (by kernel_rfl) (fun K hK => ?_)
  unfold bareOp
  go_wp2_with (go_at_call 66; refine (r31Power_any _ hP1 PM hG GM UN.out HPW.out).mono ?_; rintro e w2 ⟨rfl, hb2⟩)
  replace F_g := Lib.hid (F_g.out.keep hb2)
  replace F_s := Lib.hid (F_s.out.keep hb2)
  replace HBW := Lib.hid (HBW.out.trans (hb2.mono HBW.out.size))
  replace hS := And.intro F_g.out.s F_s.out.s
  clear hb2
  refine hK.out _ _ (fun _ => hS) ?_
  clear hK K
  try simp only [Act.put, List.setIfInBounds_toArray, List.set_cons_zero, List.set_cons_succ]
  refine wpAnyB_takeP (i := 13) (some 20) (Op.binOp BinOp.mul 22 (Operand.tmp 8) (Operand.tmp 19) 22) 22 (v := ?_) ⟨_, rfl, rfl, rfl, rfl, rfl⟩ (by kernel_rfl) (by kernel_rfl) (by kernel_rfl) (by kernel_rfl) (fun _ _ _ h => h) (fun _ => hS) (fun w' => ?_) ?_
  rotate_left
  · unfold bareOp
    go_simp
    try with_reducible rfl
  simp only [Act.put, List.setIfInBounds_toArray, List.set_cons_zero, List.set_cons_succ]
  refine wpAnyB_takeP (i := 16) (some 23) (Op.binOp BinOp.rem 22 (Operand.tmp 20) (Operand.tmp 22) 22) 22 (v := ?_) ⟨_, rfl, rfl, rfl, rfl, rfl⟩ (by kernel_rfl) (by kernel_rfl) (by kernel_rfl) (by kernel_rfl) (fun _ _ _ h => h) (fun _ => hS) (fun w' => ?_) ?_
  rotate_left
  · unfold bareOp
    go_simp
    try with_reducible rfl
  simp only [Act.put, List.setIfInBounds_toArray, List.set_cons_zero, List.set_cons_succ]
  refine wpAnyB_only (i := 17) (some 6) (Op.assign (Operand.tmp 23)) 22 ⟨_, rfl, rfl, rfl, rfl, rfl⟩ (by kernel_rfl) (fun K hK => ?_)
  unfold bareOp
  go_wp2_with fail
  refine hK.out _ _ (fun h => absurd (h.symm.trans (by kernel_rfl : _ = true)) (by decide)) ?_
  clear hK K
  try simp only [Act.put, List.setIfInBounds_toArray, List.set_cons_zero, List.set_cons_succ]
  refine wpAnyB_done (by kernel_rfl) ?_ _
  clear hS
  go_wp2_with fail
  go_ret
  exact ⟨rfl, HBW.out⟩

set_option maxRecDepth 100000 in
set_option maxHeartbeats 4000000 in
theorem rWithout1_any {P Q G a b nn pw v : Int} (w : World) (hH : Has P Q G) (b0 : 0 ≤ b) (bP : b < P) (hn : (0 - 1) % Q = nn) (hp : powm G nn P = pw) (hv : b * pw % P = v) :
    Calls Tryd.prog 75 #[.agg #[.int .u64 P, .int .u64 Q, .int .u64 G], .agg #[.int .u64 a, .int .u64 b], .int .i64 1] w fun e w' => e = .returned (.int .u64 v) ∧ Below w.heap.size w w' := by
  obtain ⟨p5, p3, hQ', pq, g2, gP⟩ := id hH
  have hP1 : 1 ≤ P := by omega
  have hGM : G < 2147483648 := by omega
  have q3 : Q < 1073741824 := by omega
  have q2 : 2 ≤ Q := by omega
  have HH := Lib.hid hH
  clear hH pq
  have hG : 0 ≤ G := by omega
  have PM : P < 2147483648 := by omega
  have GM : G < 2147483648 := by omega
  have n0 : 0 ≤ nn := by rw [← hn]; exact Int.emod_nonneg _ (by omega)
  have nQ : nn < Q := by rw [← hn]; exact Int.emod_lt_of_pos _ (by omega)
  have pw0 : 0 ≤ pw := by rw [← hp]; exact powm_nonneg (by omega)
  have pwP : pw < P := by rw [← hp]; exact powm_lt (by omega)
  have UN := Lib.hid (U64.of_lt n0 (by omega))
  have HMN := Lib.hid hn
  have HPW := Lib.hid hp
  obtain ⟨k1, k2⟩ := mul_bound b0 (by omega) pw0 (by omega)
  have k3 := wrap_u k1 (by omega)
  have k4 : (b * pw).tmod P = v := (tmod_u k1).trans hv
  have k5 : 0 ≤ v := hv ▸ Int.emod_nonneg _ (by omega)
  have k6 : v < P := hv ▸ Int.emod_lt_of_pos _ (by omega)
  have k7 := wrap_u k5 (by omega)
  have k8 : ¬ P = 0 := by omega
  have k9 : ¬ Q = 0 := by omega
  have ka : (1 : Int).tmod Q = 1 := by rw [tmod_u (by omega)]; exact Int.emod_eq_of_lt (by omega) (by omega)
  have kb : (1 : Int) % Q = 1 := Int.emod_eq_of_lt (by omega) (by omega)
  have HMQ := Lib.hid (show (0 - 1 % Q) % Q = (0 - 1) % Q by rw [kb])
  clear hn hp hv
  have F_g := Lib.hid (show Boxed ((w.alloc (.cells #[.int .u64 P, .int .u64 Q, .int .u64 G] 24)).alloc (.cells #[.int .u64 a, .int .u64 b] 51)) (w.heap.size) P Q G from (Boxed.at _ P Q G _ (w.heap.size) (by simp)).alloc _)
  have F_s := Lib.hid (show Pair ((w.alloc (.cells #[.int .u64 P, .int .u64 Q, .int .u64 G] 24)).alloc (.cells #[.int .u64 a, .int .u64 b] 51)) (w.heap.size + 1) a b from Pair.at _ a b _ (w.heap.size + 1) (by simp))
  have HBW := Lib.hid (show Below w.heap.size w ((w.alloc (.cells #[.int .u64 P, .int .u64 Q, .int .u64 G] 24)).alloc (.cells #[.int .u64 a, .int .u64 b] 51)) from ((Below.refl _ _).alloc (by simp <;> omega) _).alloc (by simp <;> omega) _)
  go_enter Tryd.func75, Tryd.ntmps75
  obtain ⟨x0a, x0b, x0c, -⟩ := id F_g.out
  obtain ⟨x1a, x1b, x1c, x1d, -⟩ := id F_s.out
  go_wp2_with fail
  clear x0a x0b x0c x1a x1b x1c x1d
  replace F_g := Lib.hid F_g.out.drew
  replace F_s := Lib.hid F_s.out.drew
  replace HBW := Lib.hid HBW.out.drew
  have hS := And.intro F_g.out.s F_s.out.s
  refine wp_region_stage 17 (fun w' => SBox w' w.heap.size P Q G ∧ SPair w' (w.heap.size + 1) a b) (by kernel_rfl) ?_
  refine wpAnyB_takeP (i := 0) (some 7) (Op.fieldAddr 51 (Operand.tmp 4) 1) 0 (v := ?_) ⟨_, rfl, rfl, rfl, rfl, rfl⟩ (by kernel_rfl) (by kernel_rfl) (by kernel_rfl) (by kernel_rfl) (fun _ _ _ h => h) (fun _ => hS) (fun w' => ?_) ?_
  rotate_left
  · unfold bareOp
    go_simp
    try with_reducible rfl
  simp only [Act.put, List.setIfInBounds_toArray, List.set_cons_zero, List.set_cons_succ]
  refine wpAnyB_take (i := 1) (some 8) (Op.load 22 (Operand.tmp 7)) 22 (v := ?_) ⟨_, rfl, rfl, rfl, rfl, rfl⟩ (by kernel_rfl) (by kernel_rfl) (by kernel_rfl) [13, 16, 17] (by kernel_rfl) (fun _ _ _ h => h) hS (fun w' hSw => ?_) ?_
  rotate_left
  · obtain ⟨⟨s0, s1, s2⟩, ⟨s3, s4⟩⟩ := hSw
    unfold bareOp
    go_simp
    try with_reducible rfl
  simp only [Act.put, List.setIfInBounds_toArray, List.set_cons_zero, List.set_cons_succ]
  refine wpAnyB_take (i := 2) (some 9) (Op.load 24 (Operand.tmp 3)) 24 (v := ?_) ⟨_, rfl, rfl, rfl, rfl, rfl⟩ (by kernel_rfl) (by kernel_rfl) (by kernel_rfl) [12, 13, 16, 17] (by kernel_rfl) (fun _ _ _ h => h) hS (fun w' hSw => ?_) ?_
  rotate_left
  · obtain ⟨⟨s0, s1, s2⟩, ⟨s3, s4⟩⟩ := hSw
    unfold bareOp
    go_simp
    try with_reducible rfl
  simp only [Act.put, List.setIfInBounds_toArray, List.set_cons_zero, List.set_cons_succ]
  refine wpAnyB_takeP (i := 3) (some 10) (Op.fieldAddr 24 (Operand.tmp 3) 2) 0 (v := ?_) ⟨_, rfl, rfl, rfl, rfl, rfl⟩ (by kernel_rfl) (by kernel_rfl) (by kernel_rfl) (by kernel_rfl) (fun _ _ _ h => h) (fun _ => hS) (fun w' => ?_) ?_
  rotate_left
  · unfold bareOp
    go_simp
    try with_reducible rfl
  simp only [Act.put, List.setIfInBounds_toArray, List.set_cons_zero, List.set_cons_succ]
  refine wpAnyB_take (i := 4) (some 11) (Op.load 22 (Operand.tmp 10)) 22 (v := ?_) ⟨_, rfl, rfl, rfl, rfl, rfl⟩ (by kernel_rfl) (by kernel_rfl) (by kernel_rfl) [12, 13, 16, 17] (by kernel_rfl) (fun _ _ _ h => h) hS (fun w' hSw => ?_) ?_
  rotate_left
  · obtain ⟨⟨s0, s1, s2⟩, ⟨s3, s4⟩⟩ := hSw
    unfold bareOp
    go_simp
    try with_reducible rfl
  simp only [Act.put, List.setIfInBounds_toArray, List.set_cons_zero, List.set_cons_succ]
  refine wpAnyB_take (i := 5) (some 12) (Op.load 24 (Operand.tmp 3)) 24 (v := ?_) ⟨_, rfl, rfl, rfl, rfl, rfl⟩ (by kernel_rfl) (by kernel_rfl) (by kernel_rfl) [11, 12, 13, 16, 17] (by kernel_rfl) (fun _ _ _ h => h) hS (fun w' hSw => ?_) ?_
  rotate_left
  · obtain ⟨⟨s0, s1, s2⟩, ⟨s3, s4⟩⟩ := hSw
    unfold bareOp
    go_simp
    try with_reducible rfl
  simp only [Act.put, List.setIfInBounds_toArray, List.set_cons_zero, List.set_cons_succ]
  refine wpAnyB_takeP (i := 6) (some 13) (Op.move (Operand.tmp 2)) 3 (v := ?_) ⟨_, rfl, rfl, rfl, rfl, rfl⟩ (by kernel_rfl) (by kernel_rfl) (by kernel_rfl) (by kernel_rfl) (fun _ _ _ h => h) (fun _ => hS) (fun w' => ?_) ?_
  rotate_left
  · unfold bareOp
    go_simp
    try with_reducible rfl
  simp only [Act.put, List.setIfInBounds_toArray, List.set_cons_zero, List.set_cons_succ]
  refine wpAnyB_takeP (i := 7) (some 14) (Op.convert 3 22 (Operand.tmp 13)) 22 (v := ?_) ⟨_, rfl, rfl, rfl, rfl, rfl⟩ (by kernel_rfl) (by kernel_rfl) (by kernel_rfl) (by kernel_rfl) (fun _ _ _ h => h) (fun _ => hS) (fun w' => ?_) ?_
  rotate_left
  · unfold bareOp
    go_simp
    try with_reducible rfl
  simp only [Act.put, List.setIfInBounds_toArray, List.set_cons_zero, List.set_cons_succ]
  refine wpAnyB_takeP (i := 8) (some 15) (Op.fieldAddr 24 (Operand.tmp 3) 1) 0 (v := ?_) ⟨_, rfl, rfl, rfl, rfl, rfl⟩ (by kernel_rfl) (by kernel_rfl) (by kernel_rfl) (by kernel_rfl) (fun _ _ _ h => h) (fun _ => hS) (fun w' => ?_) ?_
  rotate_left
  · unfold bareOp
    go_simp
    try with_reducible rfl
  simp only [Act.put, List.setIfInBounds_toArray, List.set_cons_zero, List.set_cons_succ]
  refine wpAnyB_take (i := 9) (some 16) (Op.load 22 (Operand.tmp 15)) 22 (v := ?_) ⟨_, rfl, rfl, rfl, rfl, rfl⟩ (by kernel_rfl) (by kernel_rfl) (by kernel_rfl) [10, 11, 12, 13, 16, 17] (by kernel_rfl) (fun _ _ _ h => h) hS (fun w' hSw => ?_) ?_
  rotate_left
  · obtain ⟨⟨s0, s1, s2⟩, ⟨s3, s4⟩⟩ := hSw
    unfold bareOp
    go_simp
    try with_reducible rfl
  simp only [Act.put, List.setIfInBounds_toArray, List.set_cons_zero, List.set_cons_succ]
  refine wpAnyB_takeP (i := 10) (some 17) (Op.binOp BinOp.rem 22 (Operand.tmp 14) (Operand.tmp 16) 22) 22 (v := ?_) ⟨_, rfl, rfl, rfl, rfl, rfl⟩ (by kernel_rfl) (by kernel_rfl) (by kernel_rfl) (by kernel_rfl) (fun _ _ _ h => h) (fun _ => hS) (fun w' => ?_) ?_
  rotate_left
  · unfold bareOp
    go_simp
    try with_reducible rfl
  simp only [Act.put, List.setIfInBounds_toArray, List.set_cons_zero, List.set_cons_succ]
  refine wpAnyB_takeP (i := 14) (some 21) (Op.fieldAddr 24 (Operand.tmp 3) 0) 0 (v := ?_) ⟨_, rfl, rfl, rfl, rfl, rfl⟩ (by kernel_rfl) (by kernel_rfl) (by kernel_rfl) (by kernel_rfl) (fun _ _ _ h => h) (fun _ => hS) (fun w' => ?_) ?_
  rotate_left
  · unfold bareOp
    go_simp
    try with_reducible rfl
  simp only [Act.put, List.setIfInBounds_toArray, List.set_cons_zero, List.set_cons_succ]
  refine wpAnyB_take (i := 15) (some 22) (Op.load 22 (Operand.tmp 21)) 22 (v := ?_) ⟨_, rfl, rfl, rfl, rfl, rfl⟩ (by kernel_rfl) (by kernel_rfl) (by kernel_rfl) [16, 17] (by kernel_rfl) (fun _ _ _ h => h) hS (fun w' hSw => ?_) ?_
  rotate_left
  · obtain ⟨⟨s0, s1, s2⟩, ⟨s3, s4⟩⟩ := hSw
    unfold bareOp
    go_simp
    try with_reducible rfl
  simp only [Act.put, List.setIfInBounds_toArray, List.set_cons_zero, List.set_cons_succ]
  refine wpAnyB_only (i := 11) (some 18) (Op.call { callee := Callee.value (Operand.func 74), args := #[Operand.tmp 12, Operand.tmp 17], argTypes := #[24, 22] }) 22 ⟨_, rfl, rfl, rfl, rfl, rfl⟩ (by kernel_rfl) (fun K hK => ?_)
  unfold bareOp
  go_wp2_with (go_at_call 74; refine (rminus_any (x := 1 % Q) _ HH.out (Int.emod_nonneg _ (by omega)) (Int.emod_lt_of_pos _ (by omega)) (HMQ.out.trans HMN.out)).mono ?_; rintro e w1 ⟨rfl, hb1⟩)
  replace F_g := Lib.hid (F_g.out.keep hb1)
  replace F_s := Lib.hid (F_s.out.keep hb1)
  replace HBW := Lib.hid (HBW.out.trans (hb1.mono HBW.out.size))
  replace hS := And.intro F_g.out.s F_s.out.s
  clear hb1
  refine hK.out _ _ (fun _ => hS) ?_
  clear hK K
  try simp only [Act.put, List.setIfInBounds_toArray, List.set_cons_zero, List.set_cons_succ]
  refine wpAnyB_only (i := 12) (some 19) (Op.call { callee := Callee.value (Operand.func 66), args := #[Operand.tmp 9, Operand.tmp 11, Operand.tmp 18], argTypes := #[24, 22, 22] }) 22 ⟨_, rfl, rfl, rfl, rfl, rfl⟩ (by kernel_rfl) (fun K hK => ?_)
  unfold bareOp
  go_wp2_with (go_at_call 66; refine (r31Power_any _ hP1 PM hG GM UN.out HPW.out).mono ?_; rintro e w2 ⟨rfl, hb2⟩)
  replace F_g := Lib.hid (F_g.out.keep hb2)
  replace F_s := Lib.hid (F_s.out.keep hb2)
  replace HBW := Lib.hid (HBW.out.trans (hb2.mono HBW.out.size))
  replace hS := And.intro F_g.out.s F_s.out.s
  clear hb2
  refine hK.out _ _ (fun _ => hS) ?_
  clear hK K
  try simp only [Act.put, List.setIfInBounds_toArray, List.set_cons_zero, List.set_cons_succ]
  refine wpAnyB_takeP (i := 13) (some 20) (Op.binOp BinOp.mul 22 (Operand.tmp 8) (Operand.tmp 19) 22) 22 (v := ?_) ⟨_, rfl, rfl, rfl, rfl, rfl⟩ (by kernel_rfl) (by kernel_rfl) (by kernel_rfl) (by kernel_rfl) (fun _ _ _ h => h) (fun _ => hS) (fun w' => ?_) ?_
  rotate_left
  · unfold bareOp
    go_simp
    try with_reducible rfl
  simp only [Act.put, List.setIfInBounds_toArray, List.set_cons_zero, List.set_cons_succ]
  refine wpAnyB_takeP (i := 16) (some 23) (Op.binOp BinOp.rem 22 (Operand.tmp 20) (Operand.tmp 22) 22) 22 (v := ?_) ⟨_, rfl, rfl, rfl, rfl, rfl⟩ (by kernel_rfl) (by kernel_rfl) (by kernel_rfl) (by kernel_rfl) (fun _ _ _ h => h) (fun _ => hS) (fun w' => ?_) ?_
  rotate_left
  · unfold bareOp
    go_simp
    try with_reducible rfl
  simp only [Act.put, List.setIfInBounds_toArray, List.set_cons_zero, List.set_cons_succ]
  refine wpAnyB_only (i := 17) (some 6) (Op.assign (Operand.tmp 23)) 22 ⟨_, rfl, rfl, rfl, rfl, rfl⟩ (by kernel_rfl) (fun K hK => ?_)
  unfold bareOp
  go_wp2_with fail
  refine hK.out _ _ (fun h => absurd (h.symm.trans (by kernel_rfl : _ = true)) (by decide)) ?_
  clear hK K
  try simp only [Act.put, List.setIfInBounds_toArray, List.set_cons_zero, List.set_cons_succ]
  refine wpAnyB_done (by kernel_rfl) ?_ _
  clear hS
  go_wp2_with fail
  go_ret
  exact ⟨rfl, HBW.out⟩

set_option maxRecDepth 100000 in
set_option maxHeartbeats 4000000 in
theorem rlist_any {y a b r0 r1 s0 s1 c0 c1 z0 z1 : Int} (w : World) :
    Calls Tryd.prog 76 #[.int .u64 y, .agg #[.int .u64 a, .int .u64 b], .agg #[.int .u64 r0, .int .u64 r1, .int .u64 s0, .int .u64 s1, .int .u64 c0, .int .u64 c1, .int .u64 z0, .int .u64 z1]] w fun e w' => ∃ B : Nat, e = .returned (.slice (some ⟨B, 0, none⟩) 7 7) ∧ ShL w' (some ⟨B, 0, none⟩) 7 7 [y, a, b, r0, s0, r1, s1] ∧ Below w.heap.size w w' := by
  have F_s := Lib.hid (show Pair (((w.alloc (.cells #[.int .u64 a, .int .u64 b] 51)).alloc (.cells #[.int .u64 r0, .int .u64 r1, .int .u64 s0, .int .u64 s1, .int .u64 c0, .int .u64 c1, .int .u64 z0, .int .u64 z1] 54)).alloc (.cells #[.int .u64 y, .int .u64 a, .int .u64 b, .int .u64 r0, .int .u64 s0, .int .u64 r1, .int .u64 s1] 22)) (w.heap.size) a b from ((Pair.at _ a b _ (w.heap.size) (by simp)).alloc _).alloc _)
  have F_ms := Lib.hid (show ShL (((w.alloc (.cells #[.int .u64 a, .int .u64 b] 51)).alloc (.cells #[.int .u64 r0, .int .u64 r1, .int .u64 s0, .int .u64 s1, .int .u64 c0, .int .u64 c1, .int .u64 z0, .int .u64 z1] 54)).alloc (.cells #[.int .u64 y, .int .u64 a, .int .u64 b, .int .u64 r0, .int .u64 s0, .int .u64 r1, .int .u64 s1] 22)) (some ⟨w.heap.size + 1 + 1, 0, none⟩) 7 7 [y, a, b, r0, s0, r1, s1] from ShL.laid _ [y, a, b, r0, s0, r1, s1] _ _ (w.heap.size + 1 + 1) _ _ (by simp) rfl rfl)
  have F_p := Lib.hid (show Arr .u64 (((w.alloc (.cells #[.int .u64 a, .int .u64 b] 51)).alloc (.cells #[.int .u64 r0, .int .u64 r1, .int .u64 s0, .int .u64 s1, .int .u64 c0, .int .u64 c1, .int .u64 z0, .int .u64 z1] 54)).alloc (.cells #[.int .u64 y, .int .u64 a, .int .u64 b, .int .u64 r0, .int .u64 s0, .int .u64 r1, .int .u64 s1] 22)) (w.heap.size + 1) [r0, r1, s0, s1, c0, c1, z0, z1] from (Arr.new .u64 _ [r0, r1, s0, s1, c0, c1, z0, z1] _ (w.heap.size + 1) (by simp)).alloc _)
  have HBW := Lib.hid (show Below w.heap.size w (((w.alloc (.cells #[.int .u64 a, .int .u64 b] 51)).alloc (.cells #[.int .u64 r0, .int .u64 r1, .int .u64 s0, .int .u64 s1, .int .u64 c0, .int .u64 c1, .int .u64 z0, .int .u64 z1] 54)).alloc (.cells #[.int .u64 y, .int .u64 a, .int .u64 b, .int .u64 r0, .int .u64 s0, .int .u64 r1, .int .u64 s1] 22)) from (((Below.refl _ _).alloc (by simp <;> omega) _).alloc (by simp <;> omega) _).alloc (by simp <;> omega) _)
  go_enter Tryd.func76, Tryd.ntmps76
  obtain ⟨q1_0, q1_1, q1_2, q1_3, q1_4, q1_5, q1_6, q1_7, q1_8, q1_9, q1_10, q1_11, q1_12, q1_13, q1_14, q1_15⟩ := Arr.k8 F_p.out
  obtain ⟨x0a, x0b, x0c, x0d, -⟩ := id F_s.out
  go_wp2_with fail
  go_ret
  exact ⟨_, rfl, F_ms.out, HBW.out⟩
end Go.Proofs.YtmcpfinnhgbcpaaDoor
