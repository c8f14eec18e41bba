/- The reference's Plus, Encrypt, Valid, Add, Strip, Refresh, Decrypt. -/
import Derived.Test.YtembepajnigfiaaRelA
namespace Go.Proofs.Ytembepajnigfiaa
open Go.RowKit Num
set_option linter.unusedSimpArgs false
set_option linter.unusedVariables false

set_option maxHeartbeats 4000000 in
theorem rPlus_any {P Q G a b c d x y : Int} (w : World) (PM : P < 2147483648) (a0 : 0 ≤ a) (aP : a < P) (b0 : 0 ≤ b) (bP : b < P) (c0 : 0 ≤ c) (cP : c < P) (d0 : 0 ≤ d) (dP : d < P) (hx : a * c % P = x) (hy : b * d % P = y) :
    Calls Try.prog 28 #[.agg #[.int .u64 P, .int .u64 Q, .int .u64 G], .agg #[.int .u64 a, .int .u64 b], .agg #[.int .u64 c, .int .u64 d]] w fun e w' => e = .returned (.agg #[.int .u64 x, .int .u64 y]) ∧ Below w.heap.size w w' := by
  obtain ⟨k1, k2⟩ := mul_bound a0 (by omega) c0 (by omega)
  obtain ⟨l1, l2⟩ := mul_bound b0 (by omega) d0 (by omega)
  have k3 := wrap_u k1 (by omega)
  have l3 := wrap_u l1 (by omega)
  have k4 : (a * c).tmod P = x := (tmod_u k1).trans hx
  have l4 : (b * d).tmod P = y := (tmod_u l1).trans hy
  have k5 : 0 ≤ x := hx ▸ Int.emod_nonneg _ (by omega)
  have k6 : x < P := hx ▸ Int.emod_lt_of_pos _ (by omega)
  have l5 : 0 ≤ y := hy ▸ Int.emod_nonneg _ (by omega)
  have l6 : y < P := hy ▸ Int.emod_lt_of_pos _ (by omega)
  have k7 := wrap_u k5 (by omega)
  have l7 := wrap_u l5 (by omega)
  have k8 : ¬ P = 0 := by omega
  clear hx hy
  have F_g := Lib.hid (show Boxed ((((w.alloc (.cells #[.int .u64 P, .int .u64 Q, .int .u64 G] 24)).alloc (.cells #[.int .u64 a, .int .u64 b] 45)).alloc (.cells #[.int .u64 c, .int .u64 d] 45)).alloc (.cells #[.int .u64 0, .int .u64 0] 45)) (w.heap.size) P Q G from (((Boxed.at _ P Q G _ (w.heap.size) (by simp)).alloc _).alloc _).alloc _)
  have F_u := Lib.hid (show Pair ((((w.alloc (.cells #[.int .u64 P, .int .u64 Q, .int .u64 G] 24)).alloc (.cells #[.int .u64 a, .int .u64 b] 45)).alloc (.cells #[.int .u64 c, .int .u64 d] 45)).alloc (.cells #[.int .u64 0, .int .u64 0] 45)) (w.heap.size + 1) a b from ((Pair.at _ a b _ (w.heap.size + 1) (by simp)).alloc _).alloc _)
  have F_v := Lib.hid (show Pair ((((w.alloc (.cells #[.int .u64 P, .int .u64 Q, .int .u64 G] 24)).alloc (.cells #[.int .u64 a, .int .u64 b] 45)).alloc (.cells #[.int .u64 c, .int .u64 d] 45)).alloc (.cells #[.int .u64 0, .int .u64 0] 45)) (w.heap.size + 1 + 1) c d from (Pair.at _ c d _ (w.heap.size + 1 + 1) (by simp)).alloc _)
  have F_r := Lib.hid (show Pair ((((w.alloc (.cells #[.int .u64 P, .int .u64 Q, .int .u64 G] 24)).alloc (.cells #[.int .u64 a, .int .u64 b] 45)).alloc (.cells #[.int .u64 c, .int .u64 d] 45)).alloc (.cells #[.int .u64 0, .int .u64 0] 45)) (w.heap.size + 1 + 1 + 1) 0 0 from Pair.at _ 0 0 _ (w.heap.size + 1 + 1 + 1) (by simp))
  have HBW := Lib.hid (show Below w.heap.size w ((((w.alloc (.cells #[.int .u64 P, .int .u64 Q, .int .u64 G] 24)).alloc (.cells #[.int .u64 a, .int .u64 b] 45)).alloc (.cells #[.int .u64 c, .int .u64 d] 45)).alloc (.cells #[.int .u64 0, .int .u64 0] 45)) from ((((Below.refl _ _).alloc (by simp <;> omega) _).alloc (by simp <;> omega) _).alloc (by simp <;> omega) _).alloc (by simp <;> omega) _)
  go_enter Try.func28, Try.ntmps28
  go_wp2_with fail
  replace F_g := Lib.hid F_g.out.drew
  replace F_u := Lib.hid F_u.out.drew
  replace F_v := Lib.hid F_v.out.drew
  replace F_r := Lib.hid F_r.out.drew
  replace HBW := Lib.hid HBW.out.drew
  have hS := And.intro F_g.out.s (And.intro F_u.out.s F_v.out.s)
  obtain ⟨za, zb, zc, zd, -⟩ := id F_r.out
  refine wp_region_stage 17 (fun w' => SBox w' w.heap.size P Q G ∧ SPair w' (w.heap.size + 1) a b ∧ SPair w' (w.heap.size + 1 + 1) c d) (by kernel_rfl) ?_
  refine wpAnyB_takeP (i := 0) (some 7) (Op.fieldAddr 45 (Operand.tmp 4) 0) 0 (v := ?_) ⟨_, rfl, rfl, rfl, rfl, rfl⟩ (by kernel_rfl) (by kernel_rfl) (by kernel_rfl) (by kernel_rfl) (fun _ _ _ h => h) (fun _ => hS) (fun w' => ?_) ?_
  rotate_left
  · unfold bareOp
    go_simp
    try with_reducible rfl
  simp only [Act.put, List.setIfInBounds_toArray, List.set_cons_zero, List.set_cons_succ]
  refine wpAnyB_take (i := 1) (some 8) (Op.load 22 (Operand.tmp 7)) 22 (v := ?_) ⟨_, rfl, rfl, rfl, rfl, rfl⟩ (by kernel_rfl) (by kernel_rfl) (by kernel_rfl) [4, 7, 16, 17] (by kernel_rfl) (fun _ _ _ h => h) hS (fun w' hSw => ?_) ?_
  rotate_left
  · obtain ⟨⟨s0, s1, s2⟩, ⟨s3, s4⟩, ⟨s5, s6⟩⟩ := hSw
    unfold bareOp
    go_simp
    try with_reducible rfl
  simp only [Act.put, List.setIfInBounds_toArray, List.set_cons_zero, List.set_cons_succ]
  refine wpAnyB_takeP (i := 2) (some 9) (Op.fieldAddr 45 (Operand.tmp 5) 0) 0 (v := ?_) ⟨_, rfl, rfl, rfl, rfl, rfl⟩ (by kernel_rfl) (by kernel_rfl) (by kernel_rfl) (by kernel_rfl) (fun _ _ _ h => h) (fun _ => hS) (fun w' => ?_) ?_
  rotate_left
  · unfold bareOp
    go_simp
    try with_reducible rfl
  simp only [Act.put, List.setIfInBounds_toArray, List.set_cons_zero, List.set_cons_succ]
  refine wpAnyB_take (i := 3) (some 10) (Op.load 22 (Operand.tmp 9)) 22 (v := ?_) ⟨_, rfl, rfl, rfl, rfl, rfl⟩ (by kernel_rfl) (by kernel_rfl) (by kernel_rfl) [4, 7, 16, 17] (by kernel_rfl) (fun _ _ _ h => h) hS (fun w' hSw => ?_) ?_
  rotate_left
  · obtain ⟨⟨s0, s1, s2⟩, ⟨s3, s4⟩, ⟨s5, s6⟩⟩ := hSw
    unfold bareOp
    go_simp
    try with_reducible rfl
  simp only [Act.put, List.setIfInBounds_toArray, List.set_cons_zero, List.set_cons_succ]
  refine wpAnyB_takeP (i := 4) (some 11) (Op.binOp BinOp.mul 22 (Operand.tmp 8) (Operand.tmp 10) 22) 22 (v := ?_) ⟨_, rfl, rfl, rfl, rfl, rfl⟩ (by kernel_rfl) (by kernel_rfl) (by kernel_rfl) (by kernel_rfl) (fun _ _ _ h => h) (fun _ => hS) (fun w' => ?_) ?_
  rotate_left
  · unfold bareOp
    go_simp
    try with_reducible rfl
  simp only [Act.put, List.setIfInBounds_toArray, List.set_cons_zero, List.set_cons_succ]
  refine wpAnyB_takeP (i := 5) (some 12) (Op.fieldAddr 24 (Operand.tmp 3) 0) 0 (v := ?_) ⟨_, rfl, rfl, rfl, rfl, rfl⟩ (by kernel_rfl) (by kernel_rfl) (by kernel_rfl) (by kernel_rfl) (fun _ _ _ h => h) (fun _ => hS) (fun w' => ?_) ?_
  rotate_left
  · unfold bareOp
    go_simp
    try with_reducible rfl
  simp only [Act.put, List.setIfInBounds_toArray, List.set_cons_zero, List.set_cons_succ]
  refine wpAnyB_take (i := 6) (some 13) (Op.load 22 (Operand.tmp 12)) 22 (v := ?_) ⟨_, rfl, rfl, rfl, rfl, rfl⟩ (by kernel_rfl) (by kernel_rfl) (by kernel_rfl) [7, 16, 17] (by kernel_rfl) (fun _ _ _ h => h) hS (fun w' hSw => ?_) ?_
  rotate_left
  · obtain ⟨⟨s0, s1, s2⟩, ⟨s3, s4⟩, ⟨s5, s6⟩⟩ := hSw
    unfold bareOp
    go_simp
    try with_reducible rfl
  simp only [Act.put, List.setIfInBounds_toArray, List.set_cons_zero, List.set_cons_succ]
  refine wpAnyB_takeP (i := 7) (some 14) (Op.binOp BinOp.rem 22 (Operand.tmp 11) (Operand.tmp 13) 22) 22 (v := ?_) ⟨_, rfl, rfl, rfl, rfl, rfl⟩ (by kernel_rfl) (by kernel_rfl) (by kernel_rfl) (by kernel_rfl) (fun _ _ _ h => h) (fun _ => hS) (fun w' => ?_) ?_
  rotate_left
  · unfold bareOp
    go_simp
    try with_reducible rfl
  simp only [Act.put, List.setIfInBounds_toArray, List.set_cons_zero, List.set_cons_succ]
  refine wpAnyB_takeP (i := 8) (some 15) (Op.fieldAddr 45 (Operand.tmp 4) 1) 0 (v := ?_) ⟨_, rfl, rfl, rfl, rfl, rfl⟩ (by kernel_rfl) (by kernel_rfl) (by kernel_rfl) (by kernel_rfl) (fun _ _ _ h => h) (fun _ => hS) (fun w' => ?_) ?_
  rotate_left
  · unfold bareOp
    go_simp
    try with_reducible rfl
  simp only [Act.put, List.setIfInBounds_toArray, List.set_cons_zero, List.set_cons_succ]
  refine wpAnyB_take (i := 9) (some 16) (Op.load 22 (Operand.tmp 15)) 22 (v := ?_) ⟨_, rfl, rfl, rfl, rfl, rfl⟩ (by kernel_rfl) (by kernel_rfl) (by kernel_rfl) [12, 15, 16, 17] (by kernel_rfl) (fun _ _ _ h => h) hS (fun w' hSw => ?_) ?_
  rotate_left
  · obtain ⟨⟨s0, s1, s2⟩, ⟨s3, s4⟩, ⟨s5, s6⟩⟩ := hSw
    unfold bareOp
    go_simp
    try with_reducible rfl
  simp only [Act.put, List.setIfInBounds_toArray, List.set_cons_zero, List.set_cons_succ]
  refine wpAnyB_takeP (i := 10) (some 17) (Op.fieldAddr 45 (Operand.tmp 5) 1) 0 (v := ?_) ⟨_, rfl, rfl, rfl, rfl, rfl⟩ (by kernel_rfl) (by kernel_rfl) (by kernel_rfl) (by kernel_rfl) (fun _ _ _ h => h) (fun _ => hS) (fun w' => ?_) ?_
  rotate_left
  · unfold bareOp
    go_simp
    try with_reducible rfl
  simp only [Act.put, List.setIfInBounds_toArray, List.set_cons_zero, List.set_cons_succ]
  refine wpAnyB_take (i := 11) (some 18) (Op.load 22 (Operand.tmp 17)) 22 (v := ?_) ⟨_, rfl, rfl, rfl, rfl, rfl⟩ (by kernel_rfl) (by kernel_rfl) (by kernel_rfl) [12, 15, 16, 17] (by kernel_rfl) (fun _ _ _ h => h) hS (fun w' hSw => ?_) ?_
  rotate_left
  · obtain ⟨⟨s0, s1, s2⟩, ⟨s3, s4⟩, ⟨s5, s6⟩⟩ := hSw
    unfold bareOp
    go_simp
    try with_reducible rfl
  simp only [Act.put, List.setIfInBounds_toArray, List.set_cons_zero, List.set_cons_succ]
  refine wpAnyB_takeP (i := 12) (some 19) (Op.binOp BinOp.mul 22 (Operand.tmp 16) (Operand.tmp 18) 22) 22 (v := ?_) ⟨_, rfl, rfl, rfl, rfl, rfl⟩ (by kernel_rfl) (by kernel_rfl) (by kernel_rfl) (by kernel_rfl) (fun _ _ _ h => h) (fun _ => hS) (fun w' => ?_) ?_
  rotate_left
  · unfold bareOp
    go_simp
    try with_reducible rfl
  simp only [Act.put, List.setIfInBounds_toArray, List.set_cons_zero, List.set_cons_succ]
  refine wpAnyB_takeP (i := 13) (some 20) (Op.fieldAddr 24 (Operand.tmp 3) 0) 0 (v := ?_) ⟨_, rfl, rfl, rfl, rfl, rfl⟩ (by kernel_rfl) (by kernel_rfl) (by kernel_rfl) (by kernel_rfl) (fun _ _ _ h => h) (fun _ => hS) (fun w' => ?_) ?_
  rotate_left
  · unfold bareOp
    go_simp
    try with_reducible rfl
  simp only [Act.put, List.setIfInBounds_toArray, List.set_cons_zero, List.set_cons_succ]
  refine wpAnyB_take (i := 14) (some 21) (Op.load 22 (Operand.tmp 20)) 22 (v := ?_) ⟨_, rfl, rfl, rfl, rfl, rfl⟩ (by kernel_rfl) (by kernel_rfl) (by kernel_rfl) [15, 16, 17] (by kernel_rfl) (fun _ _ _ h => h) hS (fun w' hSw => ?_) ?_
  rotate_left
  · obtain ⟨⟨s0, s1, s2⟩, ⟨s3, s4⟩, ⟨s5, s6⟩⟩ := hSw
    unfold bareOp
    go_simp
    try with_reducible rfl
  simp only [Act.put, List.setIfInBounds_toArray, List.set_cons_zero, List.set_cons_succ]
  refine wpAnyB_takeP (i := 15) (some 22) (Op.binOp BinOp.rem 22 (Operand.tmp 19) (Operand.tmp 21) 22) 22 (v := ?_) ⟨_, rfl, rfl, rfl, rfl, rfl⟩ (by kernel_rfl) (by kernel_rfl) (by kernel_rfl) (by kernel_rfl) (fun _ _ _ h => h) (fun _ => hS) (fun w' => ?_) ?_
  rotate_left
  · unfold bareOp
    go_simp
    try with_reducible rfl
  simp only [Act.put, List.setIfInBounds_toArray, List.set_cons_zero, List.set_cons_succ]
  refine wpAnyB_takeP (i := 16) (some 23) (Op.build 45 #[(0, Operand.tmp 14), (1, Operand.tmp 22)]) 45 (v := ?_) ⟨_, rfl, rfl, rfl, rfl, rfl⟩ (by kernel_rfl) (by kernel_rfl) (by kernel_rfl) (by kernel_rfl) (fun _ _ _ h => h) (fun _ => hS) (fun w' => ?_) ?_
  rotate_left
  · unfold bareOp
    go_simp
    try with_reducible rfl
  simp only [Act.put, List.setIfInBounds_toArray, List.set_cons_zero, List.set_cons_succ]
  refine wpAnyB_only (i := 17) none (Op.store 45 (Operand.tmp 6) (Operand.tmp 23)) 0 ⟨_, rfl, rfl, rfl, rfl, rfl⟩ (by kernel_rfl) (fun K hK => ?_)
  unfold bareOp
  go_wp2_with fail
  refine hK.out _ _ (fun h => absurd (h.symm.trans (by kernel_rfl : _ = true)) (by decide)) ?_
  clear hK K
  try simp only [Act.put, List.setIfInBounds_toArray, List.set_cons_zero, List.set_cons_succ]
  refine wpAnyB_done (by kernel_rfl) ?_ _
  go_wp2_with fail
  exact bodyPost_ret (res_alone (b := w.heap.size + 1 + 1 + 1) (x := x) (y := y) rfl (by repeat (first | exact Pair.at _ x y _ _ (by simp) | apply Pair.drew)) _ rfl) rfl ⟨rfl, by repeat (first | exact Below.refl _ _ | apply Below.drew | (refine Below.alloc ?_ (by simp <;> omega) _))⟩

end Go.Proofs.Ytembepajnigfiaa
