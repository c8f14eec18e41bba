/- proof.bitCheck with no further exponents, BitVerify. -/
import Derived.Test.YtlbldpkgnonbpaaDoorZsL
namespace Go.Proofs.YtlbldpkgnonbpaaDoor
open Go Go.RowKit Num Sha
set_option linter.unusedSimpArgs false
set_option linter.unusedVariables false

def bhP (P Q G y a b r0 r1 s0 s1 c0 c1 z0 z1 c : Int) : Prop := (powm G z0 P = r0 * powm a c0 P % P ∧ powm y z0 P = s0 * powm b c0 P % P) ∧ (powm G z1 P = r1 * powm a c1 P % P ∧ powm y z1 P = s1 * powm (b * powm G ((0 - 1) % Q) P % P) c1 P % P) ∧ (c0 + c1) % Q = c
def bvP (P Q G y a b r0 r1 s0 s1 c0 c1 z0 z1 : Int) (T : List Int) : Prop := memsP P Q [y, a, b, r0, r1, s0, s1] ∧ bhP P Q G y a b r0 r1 s0 s1 c0 c1 z0 z1 (chV Q [y, a, b, r0, s0, r1, s1] T)

set_option maxRecDepth 100000 in
set_option maxHeartbeats 8000000 in
theorem bitCheck0_any {P Q G y a b r r0 r1 s0 s1 c0 c1 z0 z1 : Int} (w : World) (hP : 0 ≤ P) (hQ : 0 ≤ Q) (hG : 0 ≤ G) (hr : askS P Q G [c0, c1, z0, z1] [y, a, b, r0, r1, s0, s1] = r) :
    Calls Tryd.prog 113 #[.agg #[.int .u64 P, .int .u64 Q, .int .u64 G], .int .u64 y, .agg #[.int .u64 a, .int .u64 b], .agg #[.int .u64 r0, .int .u64 r1, .int .u64 s0, .int .u64 s1, .int .u64 c0, .int .u64 c1, .int .u64 z0, .int .u64 z1], .slice none 0 0] w fun e w' => e = .returned (.int .i64 r) ∧ Below w.heap.size w w' := by
  obtain ⟨i0, hi, hz0, hz1, hz2⟩ := info_parts (P := Tryd.prog) (e := 24) (z := .int .u64 0) (size := 1) (bytes := 8) (by kernel_rfl)
  have HR := Lib.hid hr
  have HOW := Lib.hid (show World.ownsRow (((w.alloc (.cells #[.int .u64 P, .int .u64 Q, .int .u64 G] 49)).alloc (.cells #[.int .u64 a, .int .u64 b] 78)).alloc (.cells #[.int .u64 r0, .int .u64 r1, .int .u64 s0, .int .u64 s1, .int .u64 c0, .int .u64 c1, .int .u64 z0, .int .u64 z1] 27)) w.heap.size 24 1 (.slice none 0 0) 0 [] from World.ownsRow_nil _ _ _ _)
  have F_g := Lib.hid (show Boxed (((w.alloc (.cells #[.int .u64 P, .int .u64 Q, .int .u64 G] 49)).alloc (.cells #[.int .u64 a, .int .u64 b] 78)).alloc (.cells #[.int .u64 r0, .int .u64 r1, .int .u64 s0, .int .u64 s1, .int .u64 c0, .int .u64 c1, .int .u64 z0, .int .u64 z1] 27)) w.heap.size P Q G from ((Boxed.at _ P Q G _ w.heap.size rfl).alloc _).alloc _)
  have F_s := Lib.hid (show Pair (((w.alloc (.cells #[.int .u64 P, .int .u64 Q, .int .u64 G] 49)).alloc (.cells #[.int .u64 a, .int .u64 b] 78)).alloc (.cells #[.int .u64 r0, .int .u64 r1, .int .u64 s0, .int .u64 s1, .int .u64 c0, .int .u64 c1, .int .u64 z0, .int .u64 z1] 27)) (w.heap.size + 1) a b from (Pair.at _ a b _ (w.heap.size + 1) (by simp)).alloc _)
  have F_p := Lib.hid (show Eight (((w.alloc (.cells #[.int .u64 P, .int .u64 Q, .int .u64 G] 49)).alloc (.cells #[.int .u64 a, .int .u64 b] 78)).alloc (.cells #[.int .u64 r0, .int .u64 r1, .int .u64 s0, .int .u64 s1, .int .u64 c0, .int .u64 c1, .int .u64 z0, .int .u64 z1] 27)) (w.heap.size + 1 + 1) r0 r1 s0 s1 c0 c1 z0 z1 from Eight.at _ r0 r1 s0 s1 c0 c1 z0 z1 _ (w.heap.size + 1 + 1) (by simp))
  have HBW := Lib.hid (show Below w.heap.size w (((w.alloc (.cells #[.int .u64 P, .int .u64 Q, .int .u64 G] 49)).alloc (.cells #[.int .u64 a, .int .u64 b] 78)).alloc (.cells #[.int .u64 r0, .int .u64 r1, .int .u64 s0, .int .u64 s1, .int .u64 c0, .int .u64 c1, .int .u64 z0, .int .u64 z1] 27)) from (((Below.refl _ _).alloc (by simp) _).alloc (by simp <;> omega) _).alloc (by simp <;> omega) _)
  clear hr
  go_enter Tryd.func113, Tryd.ntmps113
  go_wp2_with fail
  have hS := And.intro (F_g.out.drew).s (And.intro (F_s.out.drew).s (F_p.out.drew).s)
  refine wp_region_stage 34 (fun w' => SBox w' w.heap.size P Q G ∧ SPair w' (w.heap.size + 1) a b ∧ S8 w' (w.heap.size + 1 + 1) r0 r1 s0 s1 c0 c1 z0 z1) (by kernel_rfl) ?_
  refine wpAnyB_take (i := 0) (some 11) (Op.load 49 (Operand.tmp 5)) 49 (v := ?_) ⟨_, rfl, rfl, rfl, rfl, rfl⟩ (by kernel_rfl) (by kernel_rfl) (by kernel_rfl) [34] (by kernel_rfl) (fun _ _ _ h => h) hS (fun w' hSw => ?_) ?_
  rotate_left
  · obtain ⟨⟨s0, s1, s2⟩, ⟨s3, s4⟩, ⟨s5, s6, s7, s8, s9, sa, sb, sc⟩⟩ := hSw
    unfold bareOp
    go_simp
    try with_reducible rfl
  simp only [Act.put, sZc, sZa, sZb]
  refine wpAnyB_takeP (i := 1) (some 12) (Op.move (Operand.tmp 4)) 55 (v := ?_) ⟨_, rfl, rfl, rfl, rfl, rfl⟩ (by kernel_rfl) (by kernel_rfl) (by kernel_rfl) (by kernel_rfl) (fun _ _ _ h => h) (fun _ => hS) (fun w' => ?_) ?_
  rotate_left
  · unfold bareOp
    go_simp
    try with_reducible rfl
  simp only [Act.put, sZc, sZa, sZb]
  refine wpAnyB_takeP (i := 2) (some 13) (Op.fieldAddr 27 (Operand.tmp 8) 2) 0 (v := ?_) ⟨_, rfl, rfl, rfl, rfl, rfl⟩ (by kernel_rfl) (by kernel_rfl) (by kernel_rfl) (by kernel_rfl) (fun _ _ _ h => h) (fun _ => hS) (fun w' => ?_) ?_
  rotate_left
  · unfold bareOp
    go_simp
    try with_reducible rfl
  simp only [Act.put, sZc, sZa, sZb]
  refine wpAnyB_takeP (i := 3) (some 14) (Op.indexAddr 25 (Operand.tmp 13) (Operand.const (Value.int IntKind.i64 0))) 0 (v := ?_) ⟨_, rfl, rfl, rfl, rfl, rfl⟩ (by kernel_rfl) (by kernel_rfl) (by kernel_rfl) (by kernel_rfl) (fun _ _ _ h => h) (fun _ => hS) (fun w' => ?_) ?_
  rotate_left
  · unfold bareOp
    go_simp
    try with_reducible rfl
  simp only [Act.put, sZc, sZa, sZb]
  refine wpAnyB_take (i := 4) (some 15) (Op.load 24 (Operand.tmp 14)) 24 (v := ?_) ⟨_, rfl, rfl, rfl, rfl, rfl⟩ (by kernel_rfl) (by kernel_rfl) (by kernel_rfl) [14, 15, 34] (by kernel_rfl) (fun _ _ _ h => h) hS (fun w' hSw => ?_) ?_
  rotate_left
  · obtain ⟨⟨s0, s1, s2⟩, ⟨s3, s4⟩, ⟨s5, s6, s7, s8, s9, sa, sb, sc⟩⟩ := hSw
    unfold bareOp
    go_simp
    try with_reducible rfl
  simp only [Act.put, sZc, sZa, sZb]
  refine wpAnyB_takeP (i := 5) (some 16) (Op.fieldAddr 27 (Operand.tmp 8) 2) 0 (v := ?_) ⟨_, rfl, rfl, rfl, rfl, rfl⟩ (by kernel_rfl) (by kernel_rfl) (by kernel_rfl) (by kernel_rfl) (fun _ _ _ h => h) (fun _ => hS) (fun w' => ?_) ?_
  rotate_left
  · unfold bareOp
    go_simp
    try with_reducible rfl
  simp only [Act.put, sZc, sZa, sZb]
  refine wpAnyB_takeP (i := 6) (some 17) (Op.indexAddr 25 (Operand.tmp 16) (Operand.const (Value.int IntKind.i64 1))) 0 (v := ?_) ⟨_, rfl, rfl, rfl, rfl, rfl⟩ (by kernel_rfl) (by kernel_rfl) (by kernel_rfl) (by kernel_rfl) (fun _ _ _ h => h) (fun _ => hS) (fun w' => ?_) ?_
  rotate_left
  · unfold bareOp
    go_simp
    try with_reducible rfl
  simp only [Act.put, sZc, sZa, sZb]
  refine wpAnyB_take (i := 7) (some 18) (Op.load 24 (Operand.tmp 17)) 24 (v := ?_) ⟨_, rfl, rfl, rfl, rfl, rfl⟩ (by kernel_rfl) (by kernel_rfl) (by kernel_rfl) [14, 15, 34] (by kernel_rfl) (fun _ _ _ h => h) hS (fun w' hSw => ?_) ?_
  rotate_left
  · obtain ⟨⟨s0, s1, s2⟩, ⟨s3, s4⟩, ⟨s5, s6, s7, s8, s9, sa, sb, sc⟩⟩ := hSw
    unfold bareOp
    go_simp
    try with_reducible rfl
  simp only [Act.put, sZc, sZa, sZb]
  refine wpAnyB_takeP (i := 8) (some 19) (Op.fieldAddr 27 (Operand.tmp 8) 3) 0 (v := ?_) ⟨_, rfl, rfl, rfl, rfl, rfl⟩ (by kernel_rfl) (by kernel_rfl) (by kernel_rfl) (by kernel_rfl) (fun _ _ _ h => h) (fun _ => hS) (fun w' => ?_) ?_
  rotate_left
  · unfold bareOp
    go_simp
    try with_reducible rfl
  simp only [Act.put, sZc, sZa, sZb]
  refine wpAnyB_takeP (i := 9) (some 20) (Op.indexAddr 25 (Operand.tmp 19) (Operand.const (Value.int IntKind.i64 0))) 0 (v := ?_) ⟨_, rfl, rfl, rfl, rfl, rfl⟩ (by kernel_rfl) (by kernel_rfl) (by kernel_rfl) (by kernel_rfl) (fun _ _ _ h => h) (fun _ => hS) (fun w' => ?_) ?_
  rotate_left
  · unfold bareOp
    go_simp
    try with_reducible rfl
  simp only [Act.put, sZc, sZa, sZb]
  refine wpAnyB_take (i := 10) (some 21) (Op.load 24 (Operand.tmp 20)) 24 (v := ?_) ⟨_, rfl, rfl, rfl, rfl, rfl⟩ (by kernel_rfl) (by kernel_rfl) (by kernel_rfl) [14, 15, 34] (by kernel_rfl) (fun _ _ _ h => h) hS (fun w' hSw => ?_) ?_
  rotate_left
  · obtain ⟨⟨s0, s1, s2⟩, ⟨s3, s4⟩, ⟨s5, s6, s7, s8, s9, sa, sb, sc⟩⟩ := hSw
    unfold bareOp
    go_simp
    try with_reducible rfl
  simp only [Act.put, sZc, sZa, sZb]
  refine wpAnyB_takeP (i := 11) (some 22) (Op.fieldAddr 27 (Operand.tmp 8) 3) 0 (v := ?_) ⟨_, rfl, rfl, rfl, rfl, rfl⟩ (by kernel_rfl) (by kernel_rfl) (by kernel_rfl) (by kernel_rfl) (fun _ _ _ h => h) (fun _ => hS) (fun w' => ?_) ?_
  rotate_left
  · unfold bareOp
    go_simp
    try with_reducible rfl
  simp only [Act.put, sZc, sZa, sZb]
  refine wpAnyB_takeP (i := 12) (some 23) (Op.indexAddr 25 (Operand.tmp 22) (Operand.const (Value.int IntKind.i64 1))) 0 (v := ?_) ⟨_, rfl, rfl, rfl, rfl, rfl⟩ (by kernel_rfl) (by kernel_rfl) (by kernel_rfl) (by kernel_rfl) (fun _ _ _ h => h) (fun _ => hS) (fun w' => ?_) ?_
  rotate_left
  · unfold bareOp
    go_simp
    try with_reducible rfl
  simp only [Act.put, sZc, sZa, sZb]
  refine wpAnyB_take (i := 13) (some 24) (Op.load 24 (Operand.tmp 23)) 24 (v := ?_) ⟨_, rfl, rfl, rfl, rfl, rfl⟩ (by kernel_rfl) (by kernel_rfl) (by kernel_rfl) [14, 15, 34] (by kernel_rfl) (fun _ _ _ h => h) hS (fun w' hSw => ?_) ?_
  rotate_left
  · obtain ⟨⟨s0, s1, s2⟩, ⟨s3, s4⟩, ⟨s5, s6, s7, s8, s9, sa, sb, sc⟩⟩ := hSw
    unfold bareOp
    go_simp
    try with_reducible rfl
  simp only [Act.put, sZc, sZa, sZb]
  refine wpAnyB_takeP (i := 16) (some 27) (Op.move (Operand.tmp 1)) 24 (v := ?_) ⟨_, rfl, rfl, rfl, rfl, rfl⟩ (by kernel_rfl) (by kernel_rfl) (by kernel_rfl) (by kernel_rfl) (fun _ _ _ h => h) (fun _ => hS) (fun w' => ?_) ?_
  rotate_left
  · unfold bareOp
    go_simp
    try with_reducible rfl
  simp only [Act.put, sZc, sZa, sZb]
  refine wpAnyB_takeP (i := 17) (some 28) (Op.fieldAddr 78 (Operand.tmp 7) 0) 0 (v := ?_) ⟨_, rfl, rfl, rfl, rfl, rfl⟩ (by kernel_rfl) (by kernel_rfl) (by kernel_rfl) (by kernel_rfl) (fun _ _ _ h => h) (fun _ => hS) (fun w' => ?_) ?_
  rotate_left
  · unfold bareOp
    go_simp
    try with_reducible rfl
  simp only [Act.put, sZc, sZa, sZb]
  refine wpAnyB_take (i := 18) (some 29) (Op.load 24 (Operand.tmp 28)) 24 (v := ?_) ⟨_, rfl, rfl, rfl, rfl, rfl⟩ (by kernel_rfl) (by kernel_rfl) (by kernel_rfl) [33, 34] (by kernel_rfl) (fun _ _ _ h => h) hS (fun w' hSw => ?_) ?_
  rotate_left
  · obtain ⟨⟨s0, s1, s2⟩, ⟨s3, s4⟩, ⟨s5, s6, s7, s8, s9, sa, sb, sc⟩⟩ := hSw
    unfold bareOp
    go_simp
    try with_reducible rfl
  simp only [Act.put, sZc, sZa, sZb]
  refine wpAnyB_takeP (i := 19) (some 30) (Op.fieldAddr 78 (Operand.tmp 7) 1) 0 (v := ?_) ⟨_, rfl, rfl, rfl, rfl, rfl⟩ (by kernel_rfl) (by kernel_rfl) (by kernel_rfl) (by kernel_rfl) (fun _ _ _ h => h) (fun _ => hS) (fun w' => ?_) ?_
  rotate_left
  · unfold bareOp
    go_simp
    try with_reducible rfl
  simp only [Act.put, sZc, sZa, sZb]
  refine wpAnyB_take (i := 20) (some 31) (Op.load 24 (Operand.tmp 30)) 24 (v := ?_) ⟨_, rfl, rfl, rfl, rfl, rfl⟩ (by kernel_rfl) (by kernel_rfl) (by kernel_rfl) [33, 34] (by kernel_rfl) (fun _ _ _ h => h) hS (fun w' hSw => ?_) ?_
  rotate_left
  · obtain ⟨⟨s0, s1, s2⟩, ⟨s3, s4⟩, ⟨s5, s6, s7, s8, s9, sa, sb, sc⟩⟩ := hSw
    unfold bareOp
    go_simp
    try with_reducible rfl
  simp only [Act.put, sZc, sZa, sZb]
  refine wpAnyB_takeP (i := 21) (some 32) (Op.fieldAddr 27 (Operand.tmp 8) 0) 0 (v := ?_) ⟨_, rfl, rfl, rfl, rfl, rfl⟩ (by kernel_rfl) (by kernel_rfl) (by kernel_rfl) (by kernel_rfl) (fun _ _ _ h => h) (fun _ => hS) (fun w' => ?_) ?_
  rotate_left
  · unfold bareOp
    go_simp
    try with_reducible rfl
  simp only [Act.put, sZc, sZa, sZb]
  refine wpAnyB_takeP (i := 22) (some 33) (Op.indexAddr 25 (Operand.tmp 32) (Operand.const (Value.int IntKind.i64 0))) 0 (v := ?_) ⟨_, rfl, rfl, rfl, rfl, rfl⟩ (by kernel_rfl) (by kernel_rfl) (by kernel_rfl) (by kernel_rfl) (fun _ _ _ h => h) (fun _ => hS) (fun w' => ?_) ?_
  rotate_left
  · unfold bareOp
    go_simp
    try with_reducible rfl
  simp only [Act.put, sZc, sZa, sZb]
  refine wpAnyB_take (i := 23) (some 34) (Op.load 24 (Operand.tmp 33)) 24 (v := ?_) ⟨_, rfl, rfl, rfl, rfl, rfl⟩ (by kernel_rfl) (by kernel_rfl) (by kernel_rfl) [33, 34] (by kernel_rfl) (fun _ _ _ h => h) hS (fun w' hSw => ?_) ?_
  rotate_left
  · obtain ⟨⟨s0, s1, s2⟩, ⟨s3, s4⟩, ⟨s5, s6, s7, s8, s9, sa, sb, sc⟩⟩ := hSw
    unfold bareOp
    go_simp
    try with_reducible rfl
  simp only [Act.put, sZc, sZa, sZb]
  refine wpAnyB_takeP (i := 24) (some 35) (Op.fieldAddr 27 (Operand.tmp 8) 0) 0 (v := ?_) ⟨_, rfl, rfl, rfl, rfl, rfl⟩ (by kernel_rfl) (by kernel_rfl) (by kernel_rfl) (by kernel_rfl) (fun _ _ _ h => h) (fun _ => hS) (fun w' => ?_) ?_
  rotate_left
  · unfold bareOp
    go_simp
    try with_reducible rfl
  simp only [Act.put, sZc, sZa, sZb]
  refine wpAnyB_takeP (i := 25) (some 36) (Op.indexAddr 25 (Operand.tmp 35) (Operand.const (Value.int IntKind.i64 1))) 0 (v := ?_) ⟨_, rfl, rfl, rfl, rfl, rfl⟩ (by kernel_rfl) (by kernel_rfl) (by kernel_rfl) (by kernel_rfl) (fun _ _ _ h => h) (fun _ => hS) (fun w' => ?_) ?_
  rotate_left
  · unfold bareOp
    go_simp
    try with_reducible rfl
  simp only [Act.put, sZc, sZa, sZb]
  refine wpAnyB_take (i := 26) (some 37) (Op.load 24 (Operand.tmp 36)) 24 (v := ?_) ⟨_, rfl, rfl, rfl, rfl, rfl⟩ (by kernel_rfl) (by kernel_rfl) (by kernel_rfl) [33, 34] (by kernel_rfl) (fun _ _ _ h => h) hS (fun w' hSw => ?_) ?_
  rotate_left
  · obtain ⟨⟨s0, s1, s2⟩, ⟨s3, s4⟩, ⟨s5, s6, s7, s8, s9, sa, sb, sc⟩⟩ := hSw
    unfold bareOp
    go_simp
    try with_reducible rfl
  simp only [Act.put, sZc, sZa, sZb]
  refine wpAnyB_takeP (i := 27) (some 38) (Op.fieldAddr 27 (Operand.tmp 8) 1) 0 (v := ?_) ⟨_, rfl, rfl, rfl, rfl, rfl⟩ (by kernel_rfl) (by kernel_rfl) (by kernel_rfl) (by kernel_rfl) (fun _ _ _ h => h) (fun _ => hS) (fun w' => ?_) ?_
  rotate_left
  · unfold bareOp
    go_simp
    try with_reducible rfl
  simp only [Act.put, sZc, sZa, sZb]
  refine wpAnyB_takeP (i := 28) (some 39) (Op.indexAddr 25 (Operand.tmp 38) (Operand.const (Value.int IntKind.i64 0))) 0 (v := ?_) ⟨_, rfl, rfl, rfl, rfl, rfl⟩ (by kernel_rfl) (by kernel_rfl) (by kernel_rfl) (by kernel_rfl) (fun _ _ _ h => h) (fun _ => hS) (fun w' => ?_) ?_
  rotate_left
  · unfold bareOp
    go_simp
    try with_reducible rfl
  simp only [Act.put, sZc, sZa, sZb]
  refine wpAnyB_take (i := 29) (some 40) (Op.load 24 (Operand.tmp 39)) 24 (v := ?_) ⟨_, rfl, rfl, rfl, rfl, rfl⟩ (by kernel_rfl) (by kernel_rfl) (by kernel_rfl) [33, 34] (by kernel_rfl) (fun _ _ _ h => h) hS (fun w' hSw => ?_) ?_
  rotate_left
  · obtain ⟨⟨s0, s1, s2⟩, ⟨s3, s4⟩, ⟨s5, s6, s7, s8, s9, sa, sb, sc⟩⟩ := hSw
    unfold bareOp
    go_simp
    try with_reducible rfl
  simp only [Act.put, sZc, sZa, sZb]
  refine wpAnyB_takeP (i := 30) (some 41) (Op.fieldAddr 27 (Operand.tmp 8) 1) 0 (v := ?_) ⟨_, rfl, rfl, rfl, rfl, rfl⟩ (by kernel_rfl) (by kernel_rfl) (by kernel_rfl) (by kernel_rfl) (fun _ _ _ h => h) (fun _ => hS) (fun w' => ?_) ?_
  rotate_left
  · unfold bareOp
    go_simp
    try with_reducible rfl
  simp only [Act.put, sZc, sZa, sZb]
  refine wpAnyB_takeP (i := 31) (some 42) (Op.indexAddr 25 (Operand.tmp 41) (Operand.const (Value.int IntKind.i64 1))) 0 (v := ?_) ⟨_, rfl, rfl, rfl, rfl, rfl⟩ (by kernel_rfl) (by kernel_rfl) (by kernel_rfl) (by kernel_rfl) (fun _ _ _ h => h) (fun _ => hS) (fun w' => ?_) ?_
  rotate_left
  · unfold bareOp
    go_simp
    try with_reducible rfl
  simp only [Act.put, sZc, sZa, sZb]
  refine wpAnyB_take (i := 32) (some 43) (Op.load 24 (Operand.tmp 42)) 24 (v := ?_) ⟨_, rfl, rfl, rfl, rfl, rfl⟩ (by kernel_rfl) (by kernel_rfl) (by kernel_rfl) [33, 34] (by kernel_rfl) (fun _ _ _ h => h) hS (fun w' hSw => ?_) ?_
  rotate_left
  · obtain ⟨⟨s0, s1, s2⟩, ⟨s3, s4⟩, ⟨s5, s6, s7, s8, s9, sa, sb, sc⟩⟩ := hSw
    unfold bareOp
    go_simp
    try with_reducible rfl
  simp only [Act.put, sZc, sZa, sZb]
  refine wpAnyB_two (i := 14) (j := 33) (some 25) (Op.buildSlice 55 4 #[(0, Operand.tmp 15), (1, Operand.tmp 18), (2, Operand.tmp 21), (3, Operand.tmp 24)]) 55 (some 44) (Op.buildSlice 55 7 #[(0, Operand.tmp 27), (1, Operand.tmp 29), (2, Operand.tmp 31), (3, Operand.tmp 34), (4, Operand.tmp 37), (5, Operand.tmp 40), (6, Operand.tmp 43)]) 55 ⟨_, rfl, rfl, rfl, rfl, rfl⟩ ⟨_, rfl, rfl, rfl, rfl, rfl⟩ (by kernel_rfl) (fun K hK => ?_) (fun K hK => ?_)
  · skip
    unfold bareOp
    go_wp2_with fail
    replace F_g := Lib.hid (F_g.out.alloc (.cells #[.int .u64 c0, .int .u64 c1, .int .u64 z0, .int .u64 z1] 24))
    replace F_s := Lib.hid (F_s.out.alloc (.cells #[.int .u64 c0, .int .u64 c1, .int .u64 z0, .int .u64 z1] 24))
    replace F_p := Lib.hid (F_p.out.alloc (.cells #[.int .u64 c0, .int .u64 c1, .int .u64 z0, .int .u64 z1] 24))
    replace HOW := Lib.hid (HOW.out.alloc (.cells #[.int .u64 c0, .int .u64 c1, .int .u64 z0, .int .u64 z1] 24))
    have F_X := Lib.hid (ShL.laid (((w.alloc (.cells #[.int .u64 P, .int .u64 Q, .int .u64 G] 49)).alloc (.cells #[.int .u64 a, .int .u64 b] 78)).alloc (.cells #[.int .u64 r0, .int .u64 r1, .int .u64 s0, .int .u64 s1, .int .u64 c0, .int .u64 c1, .int .u64 z0, .int .u64 z1] 27)) [c0, c1, z0, z1] _ 24 (w.heap.size + 1 + 1 + 1) 4 4 (by simp) rfl rfl)
    replace HBW := Lib.hid (HBW.out.alloc (by have h := HBW.out.size; omega) (.cells #[.int .u64 c0, .int .u64 c1, .int .u64 z0, .int .u64 z1] 24))
    replace hS := And.intro (F_g.out.drew).s (And.intro (F_s.out.drew).s (F_p.out.drew).s)
    refine hK.out _ _ (fun _ => hS) ?_
    clear hK K
    try simp only [Act.put, sZc, sZa, sZb]
    refine wpAnyB_two (i := 15) (j := 33) (some 26) (Op.call { callee := Callee.builtin Builtin.append, args := #[Operand.tmp 12, Operand.tmp 25], argTypes := #[55, 55] }) 55 (some 44) (Op.buildSlice 55 7 #[(0, Operand.tmp 27), (1, Operand.tmp 29), (2, Operand.tmp 31), (3, Operand.tmp 34), (4, Operand.tmp 37), (5, Operand.tmp 40), (6, Operand.tmp 43)]) 55 ⟨_, rfl, rfl, rfl, rfl, rfl⟩ ⟨_, rfl, rfl, rfl, rfl, rfl⟩ (by kernel_rfl) (fun K hK => ?_) (fun K hK => ?_)
    · skip
      unfold bareOp
      refine wp_append_own _ _ _ 55 rfl w.heap.size 24 i0 (.int .u64 0) 1 8 Tryd.underlying55 hi hz0 hz1 hz2 rfl (by decide) _ _ _ rfl (HOW.out.drew) _ 4 4 [.int .u64 c0, .int .u64 c1, .int .u64 z0, .int .u64 z1] rfl rfl ((F_X.out.drew).cells) (fun z hz => by simp at hz; rcases hz with rfl | rfl | rfl | rfl <;> rfl) (by unfold maxLen; omega) (by omega) (by have h := HBW.out.size; simp at h ⊢; omega) ?_
      intro v' w5 hown hgr hnil
      have hnk : ∀ q : Nat, w.heap.size ≤ q → some q ≠ none := fun q hq h => by cases h
      replace F_g := Lib.hid (boxed_grown (F_g.out.drew) hgr (hnk _ (by omega)))
      have hsp_ := pair_grown (F_s.out.drew).s (F_s.out.drew).lt hgr (hnk _ (by omega))
      replace F_p := Lib.hid ((F_p.out.drew).grown hgr (hnk _ (by omega)))
      obtain ⟨ea, ec, hv5, he5⟩ := ShL.of_owned (xs := [c0, c1, z0, z1]) hown
      subst hv5
      have F_E := Lib.hid he5
      replace HBW := Lib.hid (Below.grown (HBW.out.drew) hgr (by have h := HBW.out.size; simp at h ⊢; omega) (fun j hj => by cases hj))
      replace hS := And.intro F_g.out.s (And.intro (show SPair w5 (w.heap.size + 1) a b from hsp_) F_p.out.s)
      clear hown hgr hnil he5 F_s F_X HOW hnk
      refine hK.out _ _ (fun _ => hS) ?_
      clear hK K
      try simp only [Act.put, sZc, sZa, sZb]
      refine wpAnyB_only (i := 33) (some 44) (Op.buildSlice 55 7 #[(0, Operand.tmp 27), (1, Operand.tmp 29), (2, Operand.tmp 31), (3, Operand.tmp 34), (4, Operand.tmp 37), (5, Operand.tmp 40), (6, Operand.tmp 43)]) 55 ⟨_, rfl, rfl, rfl, rfl, rfl⟩ (by kernel_rfl) (fun K hK => ?_)
      have hl1 : w.heap.size + 1 < w5.heap.size := by have h := F_p.out.lt; omega
      unfold bareOp
      go_wp2_with fail
      replace F_E := Lib.hid (F_E.out.alloc (.cells #[.int .u64 y, .int .u64 a, .int .u64 b, .int .u64 r0, .int .u64 r1, .int .u64 s0, .int .u64 s1] 24))
      have F_Y := Lib.hid (ShL.laid w5 [y, a, b, r0, r1, s0, s1] _ 24 w5.heap.size 7 7 rfl rfl rfl)
      replace HBW := Lib.hid (HBW.out.alloc (by have h := HBW.out.size; omega) (.cells #[.int .u64 y, .int .u64 a, .int .u64 b, .int .u64 r0, .int .u64 r1, .int .u64 s0, .int .u64 s1] 24))
      replace hS := And.intro (F_g.out.alloc (.cells #[.int .u64 y, .int .u64 a, .int .u64 b, .int .u64 r0, .int .u64 r1, .int .u64 s0, .int .u64 s1] 24)).s (And.intro (show SPair (w5.alloc (.cells #[.int .u64 y, .int .u64 a, .int .u64 b, .int .u64 r0, .int .u64 r1, .int .u64 s0, .int .u64 s1] 24)) (w.heap.size + 1) a b from ⟨(World.cell?_alloc_past _ _ _ hl1).trans hS.2.1.1, (World.cell?_alloc_past _ _ _ hl1).trans hS.2.1.2⟩) (F_p.out.alloc (.cells #[.int .u64 y, .int .u64 a, .int .u64 b, .int .u64 r0, .int .u64 r1, .int .u64 s0, .int .u64 s1] 24)).s)
      refine hK.out _ _ (fun _ => hS) ?_
      clear hK K
      try simp only [Act.put, sZc, sZa, sZb]
      refine wpAnyB_only (i := 34) (some 45) (Op.call { callee := Callee.value (Operand.func 74), args := #[Operand.tmp 11, Operand.tmp 26, Operand.tmp 44], argTypes := #[49, 55, 55] }) 32 ⟨_, rfl, rfl, rfl, rfl, rfl⟩ (by kernel_rfl) (fun K hK => ?_)
      unfold bareOp
      go_wp2_with (go_at_call 74; refine (pcheck_any _ hP hQ hG F_E.out F_Y.out (by simp) (by simp) HR.out).mono ?_; rintro e w6 ⟨rfl, hb6⟩)
      replace HBW := Lib.hid (HBW.out.trans (hb6.mono (by have h := HBW.out.size; simp at h ⊢; omega)))
      clear hb6
      refine hK.out _ _ (fun h => absurd (h.symm.trans (by kernel_rfl : _ = true)) (by decide)) ?_
      clear hK K
      try simp only [Act.put, sZc, sZa, sZb]
      refine wpAnyB_takeP (i := 35) (some 10) (Op.assign (Operand.tmp 45)) 32 (v := ?_) ⟨_, rfl, rfl, rfl, rfl, rfl⟩ (by kernel_rfl) (by kernel_rfl) (by kernel_rfl) (by kernel_rfl) (fun _ _ _ h => h) (fun h => absurd (h.symm.trans (by kernel_rfl : _ = true)) (by decide)) (fun w' => ?_) ?_
      rotate_left
      · unfold bareOp
        go_simp
        try with_reducible rfl
      simp only [Act.put, sZc, sZa, sZb]
      refine wpAnyB_done (by kernel_rfl) ?_ _
      go_wp2_with fail
      go_ret
      exact ⟨rfl, HBW.out⟩
    · skip
      unfold bareOp
      go_wp2_with fail
      replace F_g := Lib.hid (F_g.out.alloc (.cells #[.int .u64 y, .int .u64 a, .int .u64 b, .int .u64 r0, .int .u64 r1, .int .u64 s0, .int .u64 s1] 24))
      replace F_s := Lib.hid (F_s.out.alloc (.cells #[.int .u64 y, .int .u64 a, .int .u64 b, .int .u64 r0, .int .u64 r1, .int .u64 s0, .int .u64 s1] 24))
      replace F_p := Lib.hid (F_p.out.alloc (.cells #[.int .u64 y, .int .u64 a, .int .u64 b, .int .u64 r0, .int .u64 r1, .int .u64 s0, .int .u64 s1] 24))
      replace F_X := Lib.hid (F_X.out.alloc (.cells #[.int .u64 y, .int .u64 a, .int .u64 b, .int .u64 r0, .int .u64 r1, .int .u64 s0, .int .u64 s1] 24))
      replace HOW := Lib.hid (HOW.out.alloc (.cells #[.int .u64 y, .int .u64 a, .int .u64 b, .int .u64 r0, .int .u64 r1, .int .u64 s0, .int .u64 s1] 24))
      have F_Y := Lib.hid (ShL.laid ((((w.alloc (.cells #[.int .u64 P, .int .u64 Q, .int .u64 G] 49)).alloc (.cells #[.int .u64 a, .int .u64 b] 78)).alloc (.cells #[.int .u64 r0, .int .u64 r1, .int .u64 s0, .int .u64 s1, .int .u64 c0, .int .u64 c1, .int .u64 z0, .int .u64 z1] 27)).alloc (.cells #[.int .u64 c0, .int .u64 c1, .int .u64 z0, .int .u64 z1] 24)) [y, a, b, r0, r1, s0, s1] _ 24 (w.heap.size + 1 + 1 + 1 + 1) 7 7 (by simp) rfl rfl)
      replace HBW := Lib.hid (HBW.out.alloc (by have h := HBW.out.size; omega) (.cells #[.int .u64 y, .int .u64 a, .int .u64 b, .int .u64 r0, .int .u64 r1, .int .u64 s0, .int .u64 s1] 24))
      replace hS := And.intro (F_g.out.drew).s (And.intro (F_s.out.drew).s (F_p.out.drew).s)
      refine hK.out _ _ (fun _ => hS) ?_
      clear hK K
      try simp only [Act.put, sZc, sZa, sZb]
      refine wpAnyB_only (i := 15) (some 26) (Op.call { callee := Callee.builtin Builtin.append, args := #[Operand.tmp 12, Operand.tmp 25], argTypes := #[55, 55] }) 55 ⟨_, rfl, rfl, rfl, rfl, rfl⟩ (by kernel_rfl) (fun K hK => ?_)
      unfold bareOp
      refine wp_append_own _ _ _ 55 rfl w.heap.size 24 i0 (.int .u64 0) 1 8 Tryd.underlying55 hi hz0 hz1 hz2 rfl (by decide) _ _ _ rfl (HOW.out.drew) _ 4 4 [.int .u64 c0, .int .u64 c1, .int .u64 z0, .int .u64 z1] rfl rfl ((F_X.out.drew).cells) (fun z hz => by simp at hz; rcases hz with rfl | rfl | rfl | rfl <;> rfl) (by unfold maxLen; omega) (by omega) (by have h := HBW.out.size; simp at h ⊢; omega) ?_
      intro v' w5 hown hgr hnil
      have hnk : ∀ q : Nat, w.heap.size ≤ q → some q ≠ none := fun q hq h => by cases h
      replace F_g := Lib.hid (boxed_grown (F_g.out.drew) hgr (hnk _ (by omega)))
      have hsp_ := pair_grown (F_s.out.drew).s (F_s.out.drew).lt hgr (hnk _ (by omega))
      replace F_p := Lib.hid ((F_p.out.drew).grown hgr (hnk _ (by omega)))
      replace F_Y := Lib.hid (shl_grown (F_Y.out.drew) hgr (hnk _ (by omega)))
      obtain ⟨ea, ec, hv5, he5⟩ := ShL.of_owned (xs := [c0, c1, z0, z1]) hown
      subst hv5
      have F_E := Lib.hid he5
      replace HBW := Lib.hid (Below.grown (HBW.out.drew) hgr (by have h := HBW.out.size; simp at h ⊢; omega) (fun j hj => by cases hj))
      replace hS := And.intro F_g.out.s (And.intro (show SPair w5 (w.heap.size + 1) a b from hsp_) F_p.out.s)
      clear hown hgr hnil he5 F_s F_X HOW hnk
      refine hK.out _ _ (fun _ => hS) ?_
      clear hK K
      try simp only [Act.put, sZc, sZa, sZb]
      refine wpAnyB_only (i := 34) (some 45) (Op.call { callee := Callee.value (Operand.func 74), args := #[Operand.tmp 11, Operand.tmp 26, Operand.tmp 44], argTypes := #[49, 55, 55] }) 32 ⟨_, rfl, rfl, rfl, rfl, rfl⟩ (by kernel_rfl) (fun K hK => ?_)
      unfold bareOp
      go_wp2_with (go_at_call 74; refine (pcheck_any _ hP hQ hG F_E.out F_Y.out (by simp) (by simp) HR.out).mono ?_; rintro e w6 ⟨rfl, hb6⟩)
      replace HBW := Lib.hid (HBW.out.trans (hb6.mono (by have h := HBW.out.size; simp at h ⊢; omega)))
      clear hb6
      refine hK.out _ _ (fun h => absurd (h.symm.trans (by kernel_rfl : _ = true)) (by decide)) ?_
      clear hK K
      try simp only [Act.put, sZc, sZa, sZb]
      refine wpAnyB_takeP (i := 35) (some 10) (Op.assign (Operand.tmp 45)) 32 (v := ?_) ⟨_, rfl, rfl, rfl, rfl, rfl⟩ (by kernel_rfl) (by kernel_rfl) (by kernel_rfl) (by kernel_rfl) (fun _ _ _ h => h) (fun h => absurd (h.symm.trans (by kernel_rfl : _ = true)) (by decide)) (fun w' => ?_) ?_
      rotate_left
      · unfold bareOp
        go_simp
        try with_reducible rfl
      simp only [Act.put, sZc, sZa, sZb]
      refine wpAnyB_done (by kernel_rfl) ?_ _
      go_wp2_with fail
      go_ret
      exact ⟨rfl, HBW.out⟩
  · skip
    unfold bareOp
    go_wp2_with fail
    replace F_g := Lib.hid (F_g.out.alloc (.cells #[.int .u64 y, .int .u64 a, .int .u64 b, .int .u64 r0, .int .u64 r1, .int .u64 s0, .int .u64 s1] 24))
    replace F_s := Lib.hid (F_s.out.alloc (.cells #[.int .u64 y, .int .u64 a, .int .u64 b, .int .u64 r0, .int .u64 r1, .int .u64 s0, .int .u64 s1] 24))
    replace F_p := Lib.hid (F_p.out.alloc (.cells #[.int .u64 y, .int .u64 a, .int .u64 b, .int .u64 r0, .int .u64 r1, .int .u64 s0, .int .u64 s1] 24))
    replace HOW := Lib.hid (HOW.out.alloc (.cells #[.int .u64 y, .int .u64 a, .int .u64 b, .int .u64 r0, .int .u64 r1, .int .u64 s0, .int .u64 s1] 24))
    have F_Y := Lib.hid (ShL.laid (((w.alloc (.cells #[.int .u64 P, .int .u64 Q, .int .u64 G] 49)).alloc (.cells #[.int .u64 a, .int .u64 b] 78)).alloc (.cells #[.int .u64 r0, .int .u64 r1, .int .u64 s0, .int .u64 s1, .int .u64 c0, .int .u64 c1, .int .u64 z0, .int .u64 z1] 27)) [y, a, b, r0, r1, s0, s1] _ 24 (w.heap.size + 1 + 1 + 1) 7 7 (by simp) rfl rfl)
    replace HBW := Lib.hid (HBW.out.alloc (by have h := HBW.out.size; omega) (.cells #[.int .u64 y, .int .u64 a, .int .u64 b, .int .u64 r0, .int .u64 r1, .int .u64 s0, .int .u64 s1] 24))
    replace hS := And.intro (F_g.out.drew).s (And.intro (F_s.out.drew).s (F_p.out.drew).s)
    refine hK.out _ _ (fun _ => hS) ?_
    clear hK K
    try simp only [Act.put, sZc, sZa, sZb]
    refine wpAnyB_only (i := 14) (some 25) (Op.buildSlice 55 4 #[(0, Operand.tmp 15), (1, Operand.tmp 18), (2, Operand.tmp 21), (3, Operand.tmp 24)]) 55 ⟨_, rfl, rfl, rfl, rfl, rfl⟩ (by kernel_rfl) (fun K hK => ?_)
    unfold bareOp
    go_wp2_with fail
    replace F_g := Lib.hid (F_g.out.alloc (.cells #[.int .u64 c0, .int .u64 c1, .int .u64 z0, .int .u64 z1] 24))
    replace F_s := Lib.hid (F_s.out.alloc (.cells #[.int .u64 c0, .int .u64 c1, .int .u64 z0, .int .u64 z1] 24))
    replace F_p := Lib.hid (F_p.out.alloc (.cells #[.int .u64 c0, .int .u64 c1, .int .u64 z0, .int .u64 z1] 24))
    replace F_Y := Lib.hid (F_Y.out.alloc (.cells #[.int .u64 c0, .int .u64 c1, .int .u64 z0, .int .u64 z1] 24))
    replace HOW := Lib.hid (HOW.out.alloc (.cells #[.int .u64 c0, .int .u64 c1, .int .u64 z0, .int .u64 z1] 24))
    have F_X := Lib.hid (ShL.laid ((((w.alloc (.cells #[.int .u64 P, .int .u64 Q, .int .u64 G] 49)).alloc (.cells #[.int .u64 a, .int .u64 b] 78)).alloc (.cells #[.int .u64 r0, .int .u64 r1, .int .u64 s0, .int .u64 s1, .int .u64 c0, .int .u64 c1, .int .u64 z0, .int .u64 z1] 27)).alloc (.cells #[.int .u64 y, .int .u64 a, .int .u64 b, .int .u64 r0, .int .u64 r1, .int .u64 s0, .int .u64 s1] 24)) [c0, c1, z0, z1] _ 24 (w.heap.size + 1 + 1 + 1 + 1) 4 4 (by simp) rfl rfl)
    replace HBW := Lib.hid (HBW.out.alloc (by have h := HBW.out.size; omega) (.cells #[.int .u64 c0, .int .u64 c1, .int .u64 z0, .int .u64 z1] 24))
    replace hS := And.intro (F_g.out.drew).s (And.intro (F_s.out.drew).s (F_p.out.drew).s)
    refine hK.out _ _ (fun _ => hS) ?_
    clear hK K
    try simp only [Act.put, sZc, sZa, sZb]
    refine wpAnyB_only (i := 15) (some 26) (Op.call { callee := Callee.builtin Builtin.append, args := #[Operand.tmp 12, Operand.tmp 25], argTypes := #[55, 55] }) 55 ⟨_, rfl, rfl, rfl, rfl, rfl⟩ (by kernel_rfl) (fun K hK => ?_)
    unfold bareOp
    refine wp_append_own _ _ _ 55 rfl w.heap.size 24 i0 (.int .u64 0) 1 8 Tryd.underlying55 hi hz0 hz1 hz2 rfl (by decide) _ _ _ rfl (HOW.out.drew) _ 4 4 [.int .u64 c0, .int .u64 c1, .int .u64 z0, .int .u64 z1] rfl rfl ((F_X.out.drew).cells) (fun z hz => by simp at hz; rcases hz with rfl | rfl | rfl | rfl <;> rfl) (by unfold maxLen; omega) (by omega) (by have h := HBW.out.size; simp at h ⊢; omega) ?_
    intro v' w5 hown hgr hnil
    have hnk : ∀ q : Nat, w.heap.size ≤ q → some q ≠ none := fun q hq h => by cases h
    replace F_g := Lib.hid (boxed_grown (F_g.out.drew) hgr (hnk _ (by omega)))
    have hsp_ := pair_grown (F_s.out.drew).s (F_s.out.drew).lt hgr (hnk _ (by omega))
    replace F_p := Lib.hid ((F_p.out.drew).grown hgr (hnk _ (by omega)))
    replace F_Y := Lib.hid (shl_grown (F_Y.out.drew) hgr (hnk _ (by omega)))
    obtain ⟨ea, ec, hv5, he5⟩ := ShL.of_owned (xs := [c0, c1, z0, z1]) hown
    subst hv5
    have F_E := Lib.hid he5
    replace HBW := Lib.hid (Below.grown (HBW.out.drew) hgr (by have h := HBW.out.size; simp at h ⊢; omega) (fun j hj => by cases hj))
    replace hS := And.intro F_g.out.s (And.intro (show SPair w5 (w.heap.size + 1) a b from hsp_) F_p.out.s)
    clear hown hgr hnil he5 F_s F_X HOW hnk
    refine hK.out _ _ (fun _ => hS) ?_
    clear hK K
    try simp only [Act.put, sZc, sZa, sZb]
    refine wpAnyB_only (i := 34) (some 45) (Op.call { callee := Callee.value (Operand.func 74), args := #[Operand.tmp 11, Operand.tmp 26, Operand.tmp 44], argTypes := #[49, 55, 55] }) 32 ⟨_, rfl, rfl, rfl, rfl, rfl⟩ (by kernel_rfl) (fun K hK => ?_)
    unfold bareOp
    go_wp2_with (go_at_call 74; refine (pcheck_any _ hP hQ hG F_E.out F_Y.out (by simp) (by simp) HR.out).mono ?_; rintro e w6 ⟨rfl, hb6⟩)
    replace HBW := Lib.hid (HBW.out.trans (hb6.mono (by have h := HBW.out.size; simp at h ⊢; omega)))
    clear hb6
    refine hK.out _ _ (fun h => absurd (h.symm.trans (by kernel_rfl : _ = true)) (by decide)) ?_
    clear hK K
    try simp only [Act.put, sZc, sZa, sZb]
    refine wpAnyB_takeP (i := 35) (some 10) (Op.assign (Operand.tmp 45)) 32 (v := ?_) ⟨_, rfl, rfl, rfl, rfl, rfl⟩ (by kernel_rfl) (by kernel_rfl) (by kernel_rfl) (by kernel_rfl) (fun _ _ _ h => h) (fun h => absurd (h.symm.trans (by kernel_rfl : _ = true)) (by decide)) (fun w' => ?_) ?_
    rotate_left
    · unfold bareOp
      go_simp
      try with_reducible rfl
    simp only [Act.put, sZc, sZa, sZb]
    refine wpAnyB_done (by kernel_rfl) ?_ _
    go_wp2_with fail
    go_ret
    exact ⟨rfl, HBW.out⟩

set_option maxRecDepth 100000 in
set_option maxHeartbeats 8000000 in
theorem pbitVerify_any {P Q G y a b r0 r1 s0 s1 c0 c1 z0 z1 e' : Int} {v : Bool} {tx : Option Addr} {n cp : Nat} {T : List Int} (w : World) (hT : Txt w tx n T) (hP : 0 ≤ P) (hQ : 0 ≤ Q) (hG : 0 ≤ G) (y0 : 0 ≤ y) (a0 : 0 ≤ a) (b_0 : 0 ≤ b) (r0_0 : 0 ≤ r0) (r1_0 : 0 ≤ r1) (s0_0 : 0 ≤ s0) (s1_0 : 0 ≤ s1) (c0_0 : 0 ≤ c0) (c1_0 : 0 ≤ c1) (z0_0 : 0 ≤ z0) (z1_0 : 0 ≤ z1) (hn : n ≤ 8100) (h : RetB (lgS (askS P Q G [c0, c1, z0, z1] [y, a, b, r0, r1, s0, s1]) n) (bvP P Q G y a b r0 r1 s0 s1 c0 c1 z0 z1 T) v e') :
    Calls Tryd.prog 104 #[.agg #[.int .u64 P, .int .u64 Q, .int .u64 G], .int .u64 y, .agg #[.int .u64 a, .int .u64 b], .agg #[.int .u64 r0, .int .u64 r1, .int .u64 s0, .int .u64 s1, .int .u64 c0, .int .u64 c1, .int .u64 z0, .int .u64 z1], .slice tx n cp] w fun e w' => e = .returned (.tuple #[.bool v, .int .i64 e']) ∧ Below w.heap.size w w' := by
  have HT := Lib.hid hT
  clear hT
  rcases h with ⟨h, hv, rfl⟩ | ⟨h, rfl, hc⟩
  · obtain ⟨h, hn8⟩ := lgS_zero h
    obtain ⟨hH, he, hnn⟩ := askS_zero h
    have HR := Lib.hid h
    have HV := Lib.hid hv
    have HLG := Lib.hid (show lgS 0 n = 0 from lgS_ok rfl hn8)
    have c0_Q := he c0 (by simp)
    have c1_Q := he c1 (by simp)
    have z0_Q := he z0 (by simp)
    have z1_Q := he z1 (by simp)
    have y_P := hnn y (by simp)
    have a_P := hnn a (by simp)
    have b_P := hnn b (by simp)
    have r0_P := hnn r0 (by simp)
    have r1_P := hnn r1 (by simp)
    have s0_P := hnn s0 (by simp)
    have s1_P := hnn s1 (by simp)
    clear h hv he hnn
    obtain ⟨p5, p3, hQ', pq, g2, gP⟩ := id hH
    have hP1 : 1 ≤ P := by omega
    have hGM : G < 2147483648 := by omega
    have q3 : Q < 1073741824 := by omega
    have q2 : 2 ≤ Q := by omega
    have HH := Lib.hid hH
    clear hH pq
    have HRG := Lib.hid (show ∀ z, z ∈ [y, a, b, r0, r1, s0, s1] → 0 ≤ z ∧ z < P from fun z hz => by
      simp at hz
      rcases hz with rfl | rfl | rfl | rfl | rfl | rfl | rfl <;> exact ⟨by assumption, by assumption⟩)
    have HUS := Lib.hid (show ∀ z, z ∈ [y, a, b, r0, s0, r1, s1] → U64 z from fun z hz => by
      simp at hz
      rcases hz with rfl | rfl | rfl | rfl | rfl | rfl | rfl <;> exact U64.of_lt (by assumption) (by omega))
    obtain ⟨h_, hh⟩ : ∃ h_, chV Q [y, a, b, r0, s0, r1, s1] T = h_ := ⟨_, rfl⟩
    obtain ⟨h0, hQQ⟩ : 0 ≤ h_ ∧ h_ < Q := by rw [← hh]; exact chV_range (by omega) _ _
    have HCC := Lib.hid hh
    clear hh
    by_cases hM : memsP P Q [y, a, b, r0, r1, s0, s1]
    case neg =>
      have HM := Lib.hid hM
      have HZ := Lib.hid (show false = v by rw [Bool.eq_iff_iff, HV.out]; exact ⟨fun h => (by cases h), fun h => absurd h.1 HM.out⟩)
      clear hM
      have F_g := Lib.hid (show Boxed (((w.alloc (.cells #[.int .u64 P, .int .u64 Q, .int .u64 G] 49)).alloc (.cells #[.int .u64 a, .int .u64 b] 78)).alloc (.cells #[.int .u64 r0, .int .u64 r1, .int .u64 s0, .int .u64 s1, .int .u64 c0, .int .u64 c1, .int .u64 z0, .int .u64 z1] 27)) (w.heap.size) P Q G from ((Boxed.at _ P Q G _ (w.heap.size) (by simp)).alloc _).alloc _)
      have F_s := Lib.hid (show Pair (((w.alloc (.cells #[.int .u64 P, .int .u64 Q, .int .u64 G] 49)).alloc (.cells #[.int .u64 a, .int .u64 b] 78)).alloc (.cells #[.int .u64 r0, .int .u64 r1, .int .u64 s0, .int .u64 s1, .int .u64 c0, .int .u64 c1, .int .u64 z0, .int .u64 z1] 27)) (w.heap.size + 1) a b from (Pair.at _ a b _ (w.heap.size + 1) (by simp)).alloc _)
      have F_p := Lib.hid (show Arr .u64 (((w.alloc (.cells #[.int .u64 P, .int .u64 Q, .int .u64 G] 49)).alloc (.cells #[.int .u64 a, .int .u64 b] 78)).alloc (.cells #[.int .u64 r0, .int .u64 r1, .int .u64 s0, .int .u64 s1, .int .u64 c0, .int .u64 c1, .int .u64 z0, .int .u64 z1] 27)) (w.heap.size + 1 + 1) [r0, r1, s0, s1, c0, c1, z0, z1] from Arr.new .u64 _ [r0, r1, s0, s1, c0, c1, z0, z1] _ (w.heap.size + 1 + 1) (by simp))
      have HBW := Lib.hid (show Below w.heap.size w (((w.alloc (.cells #[.int .u64 P, .int .u64 Q, .int .u64 G] 49)).alloc (.cells #[.int .u64 a, .int .u64 b] 78)).alloc (.cells #[.int .u64 r0, .int .u64 r1, .int .u64 s0, .int .u64 s1, .int .u64 c0, .int .u64 c1, .int .u64 z0, .int .u64 z1] 27)) from (((Below.refl _ _).alloc (by simp <;> omega) _).alloc (by simp <;> omega) _).alloc (by simp <;> omega) _)
      go_enter Tryd.func104, Tryd.ntmps104
      obtain ⟨q2_0, q2_1, q2_2, q2_3, q2_4, q2_5, q2_6, q2_7, q2_8, q2_9, q2_10, q2_11, q2_12, q2_13, q2_14, q2_15⟩ := Arr.k8 F_p.out
      obtain ⟨x0a, x0b, x0c, -⟩ := id F_g.out
      obtain ⟨x1a, x1b, x1c, x1d, -⟩ := id F_s.out
      go_wp2_with fail
      clear x0a x0b x0c x1a x1b x1c x1d q2_0 q2_1 q2_2 q2_3 q2_4 q2_5 q2_6 q2_7 q2_8 q2_9 q2_10 q2_11 q2_12 q2_13 q2_14 q2_15
      refine (bitCheck0_any _ hP hQ hG HR.out).mono ?_
      rintro e w1 ⟨rfl, hb1⟩
      replace F_g := Lib.hid (F_g.out.keep hb1)
      replace F_s := Lib.hid (F_s.out.keep hb1)
      replace F_p := Lib.hid (F_p.out.keep hb1)
      replace HBW := Lib.hid (HBW.out.trans (hb1.mono HBW.out.size))
      clear hb1
      obtain ⟨q2_0, q2_1, q2_2, q2_3, q2_4, q2_5, q2_6, q2_7, q2_8, q2_9, q2_10, q2_11, q2_12, q2_13, q2_14, q2_15⟩ := Arr.k8 F_p.out
      obtain ⟨x0a, x0b, x0c, -⟩ := id F_g.out
      obtain ⟨x1a, x1b, x1c, x1d, -⟩ := id F_s.out
      go_wp2_with fail
      clear x0a x0b x0c x1a x1b x1c x1d q2_0 q2_1 q2_2 q2_3 q2_4 q2_5 q2_6 q2_7 q2_8 q2_9 q2_10 q2_11 q2_12 q2_13 q2_14 q2_15
      refine (plong_any _ HLG.out).mono ?_
      rintro e w2 ⟨rfl, rfl⟩
      obtain ⟨q2_0, q2_1, q2_2, q2_3, q2_4, q2_5, q2_6, q2_7, q2_8, q2_9, q2_10, q2_11, q2_12, q2_13, q2_14, q2_15⟩ := Arr.k8 F_p.out
      obtain ⟨x0a, x0b, x0c, -⟩ := id F_g.out
      obtain ⟨x1a, x1b, x1c, x1d, -⟩ := id F_s.out
      go_wp2_with fail
      clear x0a x0b x0c x1a x1b x1c x1d q2_0 q2_1 q2_2 q2_3 q2_4 q2_5 q2_6 q2_7 q2_8 q2_9 q2_10 q2_11 q2_12 q2_13 q2_14 q2_15
      replace F_g := Lib.hid (F_g.out.alloc (.cells #[.int .u64 y, .int .u64 a, .int .u64 b, .int .u64 r0, .int .u64 r1, .int .u64 s0, .int .u64 s1] 24))
      replace F_s := Lib.hid (F_s.out.alloc (.cells #[.int .u64 y, .int .u64 a, .int .u64 b, .int .u64 r0, .int .u64 r1, .int .u64 s0, .int .u64 s1] 24))
      replace F_p := Lib.hid (F_p.out.alloc (.cells #[.int .u64 y, .int .u64 a, .int .u64 b, .int .u64 r0, .int .u64 r1, .int .u64 s0, .int .u64 s1] 24))
      have F_ms := Lib.hid (ShL.laid w1 [y, a, b, r0, r1, s0, s1] _ 24 _ 7 7 rfl rfl rfl)
      replace HBW := Lib.hid (HBW.out.alloc HBW.out.size (.cells #[.int .u64 y, .int .u64 a, .int .u64 b, .int .u64 r0, .int .u64 r1, .int .u64 s0, .int .u64 s1] 24))
      refine (pmembers_any (v := false) _ HH.out F_ms.out HRG.out (by simp) ⟨fun h => (by cases h), fun h => absurd h HM.out⟩).mono ?_
      rintro e w3 ⟨rfl, hb3⟩
      replace F_g := Lib.hid (F_g.out.keep hb3)
      replace F_s := Lib.hid (F_s.out.keep hb3)
      replace F_p := Lib.hid (F_p.out.keep hb3)
      replace F_ms := Lib.hid (F_ms.out.keep hb3)
      replace HBW := Lib.hid (HBW.out.trans (hb3.mono HBW.out.size))
      clear hb3
      clear F_ms
      obtain ⟨q2_0, q2_1, q2_2, q2_3, q2_4, q2_5, q2_6, q2_7, q2_8, q2_9, q2_10, q2_11, q2_12, q2_13, q2_14, q2_15⟩ := Arr.k8 F_p.out
      obtain ⟨x0a, x0b, x0c, -⟩ := id F_g.out
      obtain ⟨x1a, x1b, x1c, x1d, -⟩ := id F_s.out
      go_wp2_with fail
      go_ret2
      exact ⟨ret_bi HZ.out rfl, HBW.out⟩
    case pos =>
      have HM := Lib.hid hM
      have HFI := Lib.hid (show RetB (askS P Q G [h_, c0, c1, z0, z1] [y, a, b, r0, r1, s0, s1]) (bhP P Q G y a b r0 r1 s0 s1 c0 c1 z0 z1 h_) v 0 from .inl ⟨askS_ok HH.out (by simp; omega) (by simp; omega), HV.out.trans ⟨fun h => by rw [← HCC.out]; exact h.2, fun h => ⟨HM.out, by rw [HCC.out]; exact h⟩⟩, rfl⟩)
      clear hM
      have F_g := Lib.hid (show Boxed (((w.alloc (.cells #[.int .u64 P, .int .u64 Q, .int .u64 G] 49)).alloc (.cells #[.int .u64 a, .int .u64 b] 78)).alloc (.cells #[.int .u64 r0, .int .u64 r1, .int .u64 s0, .int .u64 s1, .int .u64 c0, .int .u64 c1, .int .u64 z0, .int .u64 z1] 27)) (w.heap.size) P Q G from ((Boxed.at _ P Q G _ (w.heap.size) (by simp)).alloc _).alloc _)
      have F_s := Lib.hid (show Pair (((w.alloc (.cells #[.int .u64 P, .int .u64 Q, .int .u64 G] 49)).alloc (.cells #[.int .u64 a, .int .u64 b] 78)).alloc (.cells #[.int .u64 r0, .int .u64 r1, .int .u64 s0, .int .u64 s1, .int .u64 c0, .int .u64 c1, .int .u64 z0, .int .u64 z1] 27)) (w.heap.size + 1) a b from (Pair.at _ a b _ (w.heap.size + 1) (by simp)).alloc _)
      have F_p := Lib.hid (show Arr .u64 (((w.alloc (.cells #[.int .u64 P, .int .u64 Q, .int .u64 G] 49)).alloc (.cells #[.int .u64 a, .int .u64 b] 78)).alloc (.cells #[.int .u64 r0, .int .u64 r1, .int .u64 s0, .int .u64 s1, .int .u64 c0, .int .u64 c1, .int .u64 z0, .int .u64 z1] 27)) (w.heap.size + 1 + 1) [r0, r1, s0, s1, c0, c1, z0, z1] from Arr.new .u64 _ [r0, r1, s0, s1, c0, c1, z0, z1] _ (w.heap.size + 1 + 1) (by simp))
      have HBW := Lib.hid (show Below w.heap.size w (((w.alloc (.cells #[.int .u64 P, .int .u64 Q, .int .u64 G] 49)).alloc (.cells #[.int .u64 a, .int .u64 b] 78)).alloc (.cells #[.int .u64 r0, .int .u64 r1, .int .u64 s0, .int .u64 s1, .int .u64 c0, .int .u64 c1, .int .u64 z0, .int .u64 z1] 27)) from (((Below.refl _ _).alloc (by simp <;> omega) _).alloc (by simp <;> omega) _).alloc (by simp <;> omega) _)
      go_enter Tryd.func104, Tryd.ntmps104
      obtain ⟨q2_0, q2_1, q2_2, q2_3, q2_4, q2_5, q2_6, q2_7, q2_8, q2_9, q2_10, q2_11, q2_12, q2_13, q2_14, q2_15⟩ := Arr.k8 F_p.out
      obtain ⟨x0a, x0b, x0c, -⟩ := id F_g.out
      obtain ⟨x1a, x1b, x1c, x1d, -⟩ := id F_s.out
      go_wp2_with fail
      clear x0a x0b x0c x1a x1b x1c x1d q2_0 q2_1 q2_2 q2_3 q2_4 q2_5 q2_6 q2_7 q2_8 q2_9 q2_10 q2_11 q2_12 q2_13 q2_14 q2_15
      refine (bitCheck0_any _ hP hQ hG HR.out).mono ?_
      rintro e w1 ⟨rfl, hb1⟩
      replace F_g := Lib.hid (F_g.out.keep hb1)
      replace F_s := Lib.hid (F_s.out.keep hb1)
      replace F_p := Lib.hid (F_p.out.keep hb1)
      replace HBW := Lib.hid (HBW.out.trans (hb1.mono HBW.out.size))
      clear hb1
      obtain ⟨q2_0, q2_1, q2_2, q2_3, q2_4, q2_5, q2_6, q2_7, q2_8, q2_9, q2_10, q2_11, q2_12, q2_13, q2_14, q2_15⟩ := Arr.k8 F_p.out
      obtain ⟨x0a, x0b, x0c, -⟩ := id F_g.out
      obtain ⟨x1a, x1b, x1c, x1d, -⟩ := id F_s.out
      go_wp2_with fail
      clear x0a x0b x0c x1a x1b x1c x1d q2_0 q2_1 q2_2 q2_3 q2_4 q2_5 q2_6 q2_7 q2_8 q2_9 q2_10 q2_11 q2_12 q2_13 q2_14 q2_15
      refine (plong_any _ HLG.out).mono ?_
      rintro e w2 ⟨rfl, rfl⟩
      obtain ⟨q2_0, q2_1, q2_2, q2_3, q2_4, q2_5, q2_6, q2_7, q2_8, q2_9, q2_10, q2_11, q2_12, q2_13, q2_14, q2_15⟩ := Arr.k8 F_p.out
      obtain ⟨x0a, x0b, x0c, -⟩ := id F_g.out
      obtain ⟨x1a, x1b, x1c, x1d, -⟩ := id F_s.out
      go_wp2_with fail
      clear x0a x0b x0c x1a x1b x1c x1d q2_0 q2_1 q2_2 q2_3 q2_4 q2_5 q2_6 q2_7 q2_8 q2_9 q2_10 q2_11 q2_12 q2_13 q2_14 q2_15
      replace F_g := Lib.hid (F_g.out.alloc (.cells #[.int .u64 y, .int .u64 a, .int .u64 b, .int .u64 r0, .int .u64 r1, .int .u64 s0, .int .u64 s1] 24))
      replace F_s := Lib.hid (F_s.out.alloc (.cells #[.int .u64 y, .int .u64 a, .int .u64 b, .int .u64 r0, .int .u64 r1, .int .u64 s0, .int .u64 s1] 24))
      replace F_p := Lib.hid (F_p.out.alloc (.cells #[.int .u64 y, .int .u64 a, .int .u64 b, .int .u64 r0, .int .u64 r1, .int .u64 s0, .int .u64 s1] 24))
      have F_ms := Lib.hid (ShL.laid w1 [y, a, b, r0, r1, s0, s1] _ 24 _ 7 7 rfl rfl rfl)
      replace HBW := Lib.hid (HBW.out.alloc HBW.out.size (.cells #[.int .u64 y, .int .u64 a, .int .u64 b, .int .u64 r0, .int .u64 r1, .int .u64 s0, .int .u64 s1] 24))
      refine (pmembers_any (v := true) _ HH.out F_ms.out HRG.out (by simp) ⟨fun _ => HM.out, fun _ => rfl⟩).mono ?_
      rintro e w3 ⟨rfl, hb3⟩
      replace F_g := Lib.hid (F_g.out.keep hb3)
      replace F_s := Lib.hid (F_s.out.keep hb3)
      replace F_p := Lib.hid (F_p.out.keep hb3)
      replace F_ms := Lib.hid (F_ms.out.keep hb3)
      replace HBW := Lib.hid (HBW.out.trans (hb3.mono HBW.out.size))
      clear hb3
      clear F_ms
      obtain ⟨q2_0, q2_1, q2_2, q2_3, q2_4, q2_5, q2_6, q2_7, q2_8, q2_9, q2_10, q2_11, q2_12, q2_13, q2_14, q2_15⟩ := Arr.k8 F_p.out
      obtain ⟨x0a, x0b, x0c, -⟩ := id F_g.out
      obtain ⟨x1a, x1b, x1c, x1d, -⟩ := id F_s.out
      go_wp2_with fail
      clear x0a x0b x0c x1a x1b x1c x1d q2_0 q2_1 q2_2 q2_3 q2_4 q2_5 q2_6 q2_7 q2_8 q2_9 q2_10 q2_11 q2_12 q2_13 q2_14 q2_15
      replace F_g := Lib.hid F_g.out.drew
      replace F_s := Lib.hid F_s.out.drew
      replace F_p := Lib.hid F_p.out.drew
      replace HBW := Lib.hid HBW.out.drew
      have hS := And.intro F_g.out.s (And.intro F_s.out.s F_p.out.s8)
      refine wp_region_stage 10 (fun w' => SBox w' w.heap.size P Q G ∧ SPair w' (w.heap.size + 1) a b ∧ S8 w' (w.heap.size + 1 + 1) r0 r1 s0 s1 c0 c1 z0 z1) (by kernel_rfl) ?_
      refine wpAnyB_take (i := 0) (some 48) (Op.load 49 (Operand.tmp 5)) 49 (v := ?_) ⟨_, rfl, rfl, rfl, rfl, rfl⟩ (by kernel_rfl) (by kernel_rfl) (by kernel_rfl) [10] (by kernel_rfl) (fun _ _ _ h => h) hS (fun w' hSw => ?_) ?_
      rotate_left
      · obtain ⟨⟨s0_, s1_, s2_⟩, ⟨s3_, s4_⟩, ⟨s5_, s6_, s7_, s8_, s9_, sa_, sb_, sc_⟩⟩ := hSw
        unfold bareOp
        go_simp
        try with_reducible rfl
      simp only [Act.put, sZc, sZa, sZb]
      refine wpAnyB_takeP (i := 1) (some 49) (Op.move (Operand.tmp 1)) 24 (v := ?_) ⟨_, rfl, rfl, rfl, rfl, rfl⟩ (by kernel_rfl) (by kernel_rfl) (by kernel_rfl) (by kernel_rfl) (fun _ _ _ h => h) (fun _ => hS) (fun w' => ?_) ?_
      rotate_left
      · unfold bareOp
        go_simp
        try with_reducible rfl
      simp only [Act.put, sZc, sZa, sZb]
      refine wpAnyB_take (i := 2) (some 50) (Op.load 78 (Operand.tmp 7)) 78 (v := ?_) ⟨_, rfl, rfl, rfl, rfl, rfl⟩ (by kernel_rfl) (by kernel_rfl) (by kernel_rfl) [10] (by kernel_rfl) (fun _ _ _ h => h) hS (fun w' hSw => ?_) ?_
      rotate_left
      · obtain ⟨⟨s0_, s1_, s2_⟩, ⟨s3_, s4_⟩, ⟨s5_, s6_, s7_, s8_, s9_, sa_, sb_, sc_⟩⟩ := hSw
        unfold bareOp
        go_simp
        try with_reducible rfl
      simp only [Act.put, sZc, sZa, sZb]
      refine wpAnyB_take (i := 3) (some 51) (Op.load 27 (Operand.tmp 8)) 27 (v := ?_) ⟨_, rfl, rfl, rfl, rfl, rfl⟩ (by kernel_rfl) (by kernel_rfl) (by kernel_rfl) [10] (by kernel_rfl) (fun _ _ _ h => h) hS (fun w' hSw => ?_) ?_
      rotate_left
      · obtain ⟨⟨s0_, s1_, s2_⟩, ⟨s3_, s4_⟩, ⟨s5_, s6_, s7_, s8_, s9_, sa_, sb_, sc_⟩⟩ := hSw
        unfold bareOp
        go_simp
        try with_reducible rfl
      simp only [Act.put, sZc, sZa, sZb]
      refine wpAnyB_take (i := 4) (some 52) (Op.load 49 (Operand.tmp 5)) 49 (v := ?_) ⟨_, rfl, rfl, rfl, rfl, rfl⟩ (by kernel_rfl) (by kernel_rfl) (by kernel_rfl) [9, 10] (by kernel_rfl) (fun _ _ _ h => h) hS (fun w' hSw => ?_) ?_
      rotate_left
      · obtain ⟨⟨s0_, s1_, s2_⟩, ⟨s3_, s4_⟩, ⟨s5_, s6_, s7_, s8_, s9_, sa_, sb_, sc_⟩⟩ := hSw
        unfold bareOp
        go_simp
        try with_reducible rfl
      simp only [Act.put, sZc, sZa, sZb]
      refine wpAnyB_takeP (i := 5) (some 53) (Op.move (Operand.tmp 1)) 24 (v := ?_) ⟨_, rfl, rfl, rfl, rfl, rfl⟩ (by kernel_rfl) (by kernel_rfl) (by kernel_rfl) (by kernel_rfl) (fun _ _ _ h => h) (fun _ => hS) (fun w' => ?_) ?_
      rotate_left
      · unfold bareOp
        go_simp
        try with_reducible rfl
      simp only [Act.put, sZc, sZa, sZb]
      refine wpAnyB_take (i := 6) (some 54) (Op.load 78 (Operand.tmp 7)) 78 (v := ?_) ⟨_, rfl, rfl, rfl, rfl, rfl⟩ (by kernel_rfl) (by kernel_rfl) (by kernel_rfl) [9, 10] (by kernel_rfl) (fun _ _ _ h => h) hS (fun w' hSw => ?_) ?_
      rotate_left
      · obtain ⟨⟨s0_, s1_, s2_⟩, ⟨s3_, s4_⟩, ⟨s5_, s6_, s7_, s8_, s9_, sa_, sb_, sc_⟩⟩ := hSw
        unfold bareOp
        go_simp
        try with_reducible rfl
      simp only [Act.put, sZc, sZa, sZb]
      refine wpAnyB_take (i := 7) (some 55) (Op.load 27 (Operand.tmp 8)) 27 (v := ?_) ⟨_, rfl, rfl, rfl, rfl, rfl⟩ (by kernel_rfl) (by kernel_rfl) (by kernel_rfl) [9, 10] (by kernel_rfl) (fun _ _ _ h => h) hS (fun w' hSw => ?_) ?_
      rotate_left
      · obtain ⟨⟨s0_, s1_, s2_⟩, ⟨s3_, s4_⟩, ⟨s5_, s6_, s7_, s8_, s9_, sa_, sb_, sc_⟩⟩ := hSw
        unfold bareOp
        go_simp
        try with_reducible rfl
      simp only [Act.put, sZc, sZa, sZb]
      refine wpAnyB_takeP (i := 8) (some 56) (Op.move (Operand.tmp 4)) 30 (v := ?_) ⟨_, rfl, rfl, rfl, rfl, rfl⟩ (by kernel_rfl) (by kernel_rfl) (by kernel_rfl) (by kernel_rfl) (fun _ _ _ h => h) (fun _ => hS) (fun w' => ?_) ?_
      rotate_left
      · unfold bareOp
        go_simp
        try with_reducible rfl
      simp only [Act.put, sZc, sZa, sZb]
      refine wpAnyB_only (i := 9) (some 57) (Op.call { callee := Callee.value (Operand.func 81), args := #[Operand.tmp 52, Operand.tmp 53, Operand.tmp 54, Operand.tmp 55, Operand.tmp 56], argTypes := #[49, 24, 78, 27, 30] }) 24 ⟨_, rfl, rfl, rfl, rfl, rfl⟩ (by kernel_rfl) (fun K hK => ?_)
      unfold bareOp
      go_wp2_with (go_at_call 81; refine (ptotal_any _ (HT.out.keep HBW.out) HH.out HUS.out hn8 HCC.out).mono ?_; rintro e w4 ⟨rfl, hb4⟩)
      replace F_g := Lib.hid (F_g.out.keep hb4)
      replace F_s := Lib.hid (F_s.out.keep hb4)
      replace F_p := Lib.hid (F_p.out.keep hb4)
      replace HBW := Lib.hid (HBW.out.trans (hb4.mono HBW.out.size))
      replace hS := And.intro F_g.out.s (And.intro F_s.out.s F_p.out.s8)
      clear hb4
      refine hK.out _ _ (fun _ => hS) ?_
      clear hK K
      try simp only [Act.put, sZc, sZa, sZb]
      refine wpAnyB_only (i := 10) (some 58) (Op.call { callee := Callee.value (Operand.func 115), args := #[Operand.tmp 48, Operand.tmp 49, Operand.tmp 50, Operand.tmp 51, Operand.tmp 57], argTypes := #[49, 24, 78, 27, 24] }) 70 ⟨_, rfl, rfl, rfl, rfl, rfl⟩ (by kernel_rfl) (fun K hK => ?_)
      unfold bareOp
      go_wp2_with (go_at_call 115; refine (bitHolds_any (v := v) (e' := 0) _ hP hQ hG y0 a0 b_0 h0 r0_0 r1_0 s0_0 s1_0 c0_0 c1_0 z0_0 z1_0 rfl rfl rfl HFI.out).mono ?_; rintro e w5 ⟨rfl, hb5⟩)
      replace F_g := Lib.hid (F_g.out.keep hb5)
      replace F_s := Lib.hid (F_s.out.keep hb5)
      replace F_p := Lib.hid (F_p.out.keep hb5)
      replace HBW := Lib.hid (HBW.out.trans (hb5.mono HBW.out.size))
      replace hS := And.intro F_g.out.s (And.intro F_s.out.s F_p.out.s8)
      clear hb5
      refine hK.out _ _ (fun h => absurd (h.symm.trans (by kernel_rfl : _ = true)) (by decide)) ?_
      clear hK K
      try simp only [Act.put, sZc, sZa, sZb]
      refine wpAnyB_takeP (i := 11) (some 59) (Op.extract (Operand.tmp 58) 0) 4 (v := ?_) ⟨_, rfl, rfl, rfl, rfl, rfl⟩ (by kernel_rfl) (by kernel_rfl) (by kernel_rfl) (by kernel_rfl) (fun _ _ _ h => h) (fun h => absurd (h.symm.trans (by kernel_rfl : _ = true)) (by decide)) (fun w' => ?_) ?_
      rotate_left
      · unfold bareOp
        go_simp
        try with_reducible rfl
      simp only [Act.put, sZc, sZa, sZb]
      refine wpAnyB_takeP (i := 12) (some 60) (Op.extract (Operand.tmp 58) 1) 32 (v := ?_) ⟨_, rfl, rfl, rfl, rfl, rfl⟩ (by kernel_rfl) (by kernel_rfl) (by kernel_rfl) (by kernel_rfl) (fun _ _ _ h => h) (fun h => absurd (h.symm.trans (by kernel_rfl : _ = true)) (by decide)) (fun w' => ?_) ?_
      rotate_left
      · unfold bareOp
        go_simp
        try with_reducible rfl
      simp only [Act.put, sZc, sZa, sZb]
      refine wpAnyB_takeP (i := 13) (some 10) (Op.assign (Operand.tmp 59)) 4 (v := ?_) ⟨_, rfl, rfl, rfl, rfl, rfl⟩ (by kernel_rfl) (by kernel_rfl) (by kernel_rfl) (by kernel_rfl) (fun _ _ _ h => h) (fun h => absurd (h.symm.trans (by kernel_rfl : _ = true)) (by decide)) (fun w' => ?_) ?_
      rotate_left
      · unfold bareOp
        go_simp
        try with_reducible rfl
      simp only [Act.put, sZc, sZa, sZb]
      refine wpAnyB_takeP (i := 14) (some 11) (Op.assign (Operand.tmp 60)) 32 (v := ?_) ⟨_, rfl, rfl, rfl, rfl, rfl⟩ (by kernel_rfl) (by kernel_rfl) (by kernel_rfl) (by kernel_rfl) (fun _ _ _ h => h) (fun h => absurd (h.symm.trans (by kernel_rfl : _ = true)) (by decide)) (fun w' => ?_) ?_
      rotate_left
      · unfold bareOp
        go_simp
        try with_reducible rfl
      simp only [Act.put, sZc, sZa, sZb]
      refine wpAnyB_done (by kernel_rfl) ?_ _
      go_wp2_with fail
      go_ret2
      exact ⟨rfl, HBW.out⟩
  · by_cases ha : askS P Q G [c0, c1, z0, z1] [y, a, b, r0, r1, s0, s1] = 0
    · have hn8 := lgS_long ha h
      obtain rfl : e' = 4 := by rw [hc]; exact lgS_four ha hn8
      have HR := Lib.hid ha
      have HLG := Lib.hid (show lgS 0 n = 4 from lgS_four rfl hn8)
      clear h hc ha
      have F_g := Lib.hid (show Boxed (((w.alloc (.cells #[.int .u64 P, .int .u64 Q, .int .u64 G] 49)).alloc (.cells #[.int .u64 a, .int .u64 b] 78)).alloc (.cells #[.int .u64 r0, .int .u64 r1, .int .u64 s0, .int .u64 s1, .int .u64 c0, .int .u64 c1, .int .u64 z0, .int .u64 z1] 27)) (w.heap.size) P Q G from ((Boxed.at _ P Q G _ (w.heap.size) (by simp)).alloc _).alloc _)
      have F_s := Lib.hid (show Pair (((w.alloc (.cells #[.int .u64 P, .int .u64 Q, .int .u64 G] 49)).alloc (.cells #[.int .u64 a, .int .u64 b] 78)).alloc (.cells #[.int .u64 r0, .int .u64 r1, .int .u64 s0, .int .u64 s1, .int .u64 c0, .int .u64 c1, .int .u64 z0, .int .u64 z1] 27)) (w.heap.size + 1) a b from (Pair.at _ a b _ (w.heap.size + 1) (by simp)).alloc _)
      have F_p := Lib.hid (show Arr .u64 (((w.alloc (.cells #[.int .u64 P, .int .u64 Q, .int .u64 G] 49)).alloc (.cells #[.int .u64 a, .int .u64 b] 78)).alloc (.cells #[.int .u64 r0, .int .u64 r1, .int .u64 s0, .int .u64 s1, .int .u64 c0, .int .u64 c1, .int .u64 z0, .int .u64 z1] 27)) (w.heap.size + 1 + 1) [r0, r1, s0, s1, c0, c1, z0, z1] from Arr.new .u64 _ [r0, r1, s0, s1, c0, c1, z0, z1] _ (w.heap.size + 1 + 1) (by simp))
      have HBW := Lib.hid (show Below w.heap.size w (((w.alloc (.cells #[.int .u64 P, .int .u64 Q, .int .u64 G] 49)).alloc (.cells #[.int .u64 a, .int .u64 b] 78)).alloc (.cells #[.int .u64 r0, .int .u64 r1, .int .u64 s0, .int .u64 s1, .int .u64 c0, .int .u64 c1, .int .u64 z0, .int .u64 z1] 27)) from (((Below.refl _ _).alloc (by simp <;> omega) _).alloc (by simp <;> omega) _).alloc (by simp <;> omega) _)
      go_enter Tryd.func104, Tryd.ntmps104
      obtain ⟨q2_0, q2_1, q2_2, q2_3, q2_4, q2_5, q2_6, q2_7, q2_8, q2_9, q2_10, q2_11, q2_12, q2_13, q2_14, q2_15⟩ := Arr.k8 F_p.out
      obtain ⟨x0a, x0b, x0c, -⟩ := id F_g.out
      obtain ⟨x1a, x1b, x1c, x1d, -⟩ := id F_s.out
      go_wp2_with fail
      clear x0a x0b x0c x1a x1b x1c x1d q2_0 q2_1 q2_2 q2_3 q2_4 q2_5 q2_6 q2_7 q2_8 q2_9 q2_10 q2_11 q2_12 q2_13 q2_14 q2_15
      refine (bitCheck0_any _ hP hQ hG HR.out).mono ?_
      rintro e w1 ⟨rfl, hb1⟩
      replace F_g := Lib.hid (F_g.out.keep hb1)
      replace F_s := Lib.hid (F_s.out.keep hb1)
      replace F_p := Lib.hid (F_p.out.keep hb1)
      replace HBW := Lib.hid (HBW.out.trans (hb1.mono HBW.out.size))
      clear hb1
      obtain ⟨q2_0, q2_1, q2_2, q2_3, q2_4, q2_5, q2_6, q2_7, q2_8, q2_9, q2_10, q2_11, q2_12, q2_13, q2_14, q2_15⟩ := Arr.k8 F_p.out
      obtain ⟨x0a, x0b, x0c, -⟩ := id F_g.out
      obtain ⟨x1a, x1b, x1c, x1d, -⟩ := id F_s.out
      go_wp2_with fail
      clear x0a x0b x0c x1a x1b x1c x1d q2_0 q2_1 q2_2 q2_3 q2_4 q2_5 q2_6 q2_7 q2_8 q2_9 q2_10 q2_11 q2_12 q2_13 q2_14 q2_15
      refine (plong_any _ HLG.out).mono ?_
      rintro e w2 ⟨rfl, rfl⟩
      obtain ⟨q2_0, q2_1, q2_2, q2_3, q2_4, q2_5, q2_6, q2_7, q2_8, q2_9, q2_10, q2_11, q2_12, q2_13, q2_14, q2_15⟩ := Arr.k8 F_p.out
      obtain ⟨x0a, x0b, x0c, -⟩ := id F_g.out
      obtain ⟨x1a, x1b, x1c, x1d, -⟩ := id F_s.out
      go_wp2_with fail
      go_ret2
      exact ⟨rfl, HBW.out⟩
    · have hc' : e' = askS P Q G [c0, c1, z0, z1] [y, a, b, r0, r1, s0, s1] := by rw [hc]; exact lgS_ne ha
      have hnc : e' ≠ 0 := by rw [hc']; exact ha
      have hn1 : (e' != 0) = true := by simpa using hnc
      have HR := Lib.hid hc'.symm
      have HLG := Lib.hid (show lgS e' n = e' from lgS_ne hnc)
      clear h hc ha hc' hnc
      have F_g := Lib.hid (show Boxed (((w.alloc (.cells #[.int .u64 P, .int .u64 Q, .int .u64 G] 49)).alloc (.cells #[.int .u64 a, .int .u64 b] 78)).alloc (.cells #[.int .u64 r0, .int .u64 r1, .int .u64 s0, .int .u64 s1, .int .u64 c0, .int .u64 c1, .int .u64 z0, .int .u64 z1] 27)) (w.heap.size) P Q G from ((Boxed.at _ P Q G _ (w.heap.size) (by simp)).alloc _).alloc _)
      have F_s := Lib.hid (show Pair (((w.alloc (.cells #[.int .u64 P, .int .u64 Q, .int .u64 G] 49)).alloc (.cells #[.int .u64 a, .int .u64 b] 78)).alloc (.cells #[.int .u64 r0, .int .u64 r1, .int .u64 s0, .int .u64 s1, .int .u64 c0, .int .u64 c1, .int .u64 z0, .int .u64 z1] 27)) (w.heap.size + 1) a b from (Pair.at _ a b _ (w.heap.size + 1) (by simp)).alloc _)
      have F_p := Lib.hid (show Arr .u64 (((w.alloc (.cells #[.int .u64 P, .int .u64 Q, .int .u64 G] 49)).alloc (.cells #[.int .u64 a, .int .u64 b] 78)).alloc (.cells #[.int .u64 r0, .int .u64 r1, .int .u64 s0, .int .u64 s1, .int .u64 c0, .int .u64 c1, .int .u64 z0, .int .u64 z1] 27)) (w.heap.size + 1 + 1) [r0, r1, s0, s1, c0, c1, z0, z1] from Arr.new .u64 _ [r0, r1, s0, s1, c0, c1, z0, z1] _ (w.heap.size + 1 + 1) (by simp))
      have HBW := Lib.hid (show Below w.heap.size w (((w.alloc (.cells #[.int .u64 P, .int .u64 Q, .int .u64 G] 49)).alloc (.cells #[.int .u64 a, .int .u64 b] 78)).alloc (.cells #[.int .u64 r0, .int .u64 r1, .int .u64 s0, .int .u64 s1, .int .u64 c0, .int .u64 c1, .int .u64 z0, .int .u64 z1] 27)) from (((Below.refl _ _).alloc (by simp <;> omega) _).alloc (by simp <;> omega) _).alloc (by simp <;> omega) _)
      go_enter Tryd.func104, Tryd.ntmps104
      obtain ⟨q2_0, q2_1, q2_2, q2_3, q2_4, q2_5, q2_6, q2_7, q2_8, q2_9, q2_10, q2_11, q2_12, q2_13, q2_14, q2_15⟩ := Arr.k8 F_p.out
      obtain ⟨x0a, x0b, x0c, -⟩ := id F_g.out
      obtain ⟨x1a, x1b, x1c, x1d, -⟩ := id F_s.out
      go_wp2_with fail
      clear x0a x0b x0c x1a x1b x1c x1d q2_0 q2_1 q2_2 q2_3 q2_4 q2_5 q2_6 q2_7 q2_8 q2_9 q2_10 q2_11 q2_12 q2_13 q2_14 q2_15
      refine (bitCheck0_any _ hP hQ hG HR.out).mono ?_
      rintro e w1 ⟨rfl, hb1⟩
      replace F_g := Lib.hid (F_g.out.keep hb1)
      replace F_s := Lib.hid (F_s.out.keep hb1)
      replace F_p := Lib.hid (F_p.out.keep hb1)
      replace HBW := Lib.hid (HBW.out.trans (hb1.mono HBW.out.size))
      clear hb1
      obtain ⟨q2_0, q2_1, q2_2, q2_3, q2_4, q2_5, q2_6, q2_7, q2_8, q2_9, q2_10, q2_11, q2_12, q2_13, q2_14, q2_15⟩ := Arr.k8 F_p.out
      obtain ⟨x0a, x0b, x0c, -⟩ := id F_g.out
      obtain ⟨x1a, x1b, x1c, x1d, -⟩ := id F_s.out
      go_wp2_with fail
      go_ret2
      exact ⟨rfl, HBW.out⟩
end Go.Proofs.YtlbldpkgnonbpaaDoor
