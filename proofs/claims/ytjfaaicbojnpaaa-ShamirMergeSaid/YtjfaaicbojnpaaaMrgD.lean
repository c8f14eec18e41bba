/- The reference's copies, with their rows. -/
import Derived.Test.YtjfaaicbojnpaaaMrgC
namespace Go.Proofs.Ytjfaaicbojnpaaa
open Go.RowKit Num
set_option linter.unusedSimpArgs false
set_option linter.unusedVariables false

set_option maxHeartbeats 2000000 in
theorem rtwin64_own {a : Option Addr} {n c : Nat} {xs : List Int} (w : World) (h : ShI .u64 w a n xs) (h1 : 1 ≤ n) (hn : n ≤ 10000) :
    Calls Try.prog 18 #[.slice a n c] w fun e w' => ∃ v, e = .returned v ∧ OwnU w' w.heap.size v xs ∧ Below w.heap.size w w' := by
  obtain ⟨i0, hi, hz0, hz1, hz2⟩ := info_parts (P := Try.prog) (e := 22) (z := .int .u64 0) (size := 1) (bytes := 8) (by kernel_rfl)
  have HS := Lib.hid h
  have hl := h.len
  obtain ⟨s, o, rfl, -, -, -⟩ := shI_some h h1
  have HL := Lib.hid (show (xs.map (Value.int IntKind.u64)).length = n * 1 by rw [List.length_map, hl, Nat.mul_one])
  have HLN := Lib.hid hl
  clear h hl
  go_enter Try.func18, Try.ntmps18
  go_wp2_with (at_builtin; refine wpList_append_own _ rfl _ _ 25 rfl w.heap.size 22 i0 (.int .u64 0) 1 8 Try.underlying25 hi hz0 hz1 hz2 rfl (by decide) _ _ _ rfl (World.ownsRow_nil w _ _ _) _ n c (xs.map (Value.int IntKind.u64)) rfl HL.out HS.out.cells (fun u hu => by obtain ⟨x, -, rfl⟩ := List.mem_map.1 hu; rfl) (by unfold maxLen; omega) (by omega) (Nat.le_refl _) ?_; intro v' w1 hown hgr hnil; have hB := Lib.hid (Below.grown (Below.refl w.heap.size w) hgr (Nat.le_refl _) (fun k hk => by cases hk)); have HOWN := Lib.hid hown; clear hown hgr hnil)
  go_ret
  have h9 := HOWN.out
  rw [Nat.zero_add, List.nil_append] at h9
  refine ⟨_, rfl, ?_, hB.out⟩
  unfold OwnU
  rw [← HLN.out]
  exact h9

set_option maxRecDepth 100000 in
set_option maxHeartbeats 4000000 in
theorem rtwin_own {a b : Option Addr} {n c m d : Nat} {xs ys : List Int} (w : World) (h1 : ShI .u64 w a n xs) (h2 : ShI .u64 w b m ys) (k1 : 1 ≤ n) (k2 : 1 ≤ m) (hn : n ≤ 10000) (hm : m ≤ 10000) :
    Calls Try.prog 14 #[.agg #[.slice a n c, .slice b m d]] w (RetOne w xs ys) := by
  have H1 := Lib.hid h1
  have H2 := Lib.hid h2
  clear h1 h2
  have F_x := Lib.hid (show DealBox ((w.alloc (.cells #[.slice a n c, .slice b m d] 27)).alloc (.cells #[.slice none 0 0, .slice none 0 0] 27)) w.heap.size (.slice a n c) (.slice b m d) from (DealBox.at _ _ _ _ w.heap.size (by simp)).alloc _)
  have F_r := Lib.hid (show DealBox ((w.alloc (.cells #[.slice a n c, .slice b m d] 27)).alloc (.cells #[.slice none 0 0, .slice none 0 0] 27)) (w.heap.size + 1) (.slice none 0 0) (.slice none 0 0) from DealBox.at _ _ _ _ (w.heap.size + 1) (by simp))
  have HBW := Lib.hid (show Below w.heap.size w ((w.alloc (.cells #[.slice a n c, .slice b m d] 27)).alloc (.cells #[.slice none 0 0, .slice none 0 0] 27)) from ((Below.refl _ _).alloc (by simp <;> omega) _).alloc (by simp <;> omega) _)
  go_enter Try.func14, Try.ntmps14
  go_wp2_with fail
  replace F_x := Lib.hid F_x.out.drew
  replace F_r := Lib.hid F_r.out.drew
  replace HBW := Lib.hid HBW.out.drew
  have hS := And.intro F_x.out.c0 F_x.out.c1
  refine wp_region_stage 7 (fun w' => w'.cell? ⟨w.heap.size, 0, none⟩ = some (.slice a n c) ∧ w'.cell? ⟨w.heap.size, 1, none⟩ = some (.slice b m d)) (by kernel_rfl) ?_
  refine wpAnyB_takeP (i := 0) (some 3) (Op.fieldAddr 27 (Operand.tmp 1) 0) 0 (v := ?_) ⟨_, rfl, rfl, rfl, rfl, rfl⟩ (by kernel_rfl) (by kernel_rfl) (by kernel_rfl) (by kernel_rfl) (fun _ _ _ h => h) (fun _ => hS) (fun w' => ?_) ?_
  rotate_left
  · unfold bareOp
    go_simp
    try with_reducible rfl
  simp only [Act.put, List.setIfInBounds_toArray, List.set_cons_zero, List.set_cons_succ]
  refine wpAnyB_take (i := 1) (some 4) (Op.load 25 (Operand.tmp 3)) 25 (v := ?_) ⟨_, rfl, rfl, rfl, rfl, rfl⟩ (by kernel_rfl) (by kernel_rfl) (by kernel_rfl) [2, 5, 6, 7] (by kernel_rfl) (fun _ _ _ h => h) hS (fun w' hSw => ?_) ?_
  rotate_left
  · obtain ⟨b3, b4⟩ := hSw
    unfold bareOp
    go_simp
    try with_reducible rfl
  simp only [Act.put, List.setIfInBounds_toArray, List.set_cons_zero, List.set_cons_succ]
  refine wpAnyB_takeP (i := 3) (some 6) (Op.fieldAddr 27 (Operand.tmp 1) 1) 0 (v := ?_) ⟨_, rfl, rfl, rfl, rfl, rfl⟩ (by kernel_rfl) (by kernel_rfl) (by kernel_rfl) (by kernel_rfl) (fun _ _ _ h => h) (fun _ => hS) (fun w' => ?_) ?_
  rotate_left
  · unfold bareOp
    go_simp
    try with_reducible rfl
  simp only [Act.put, List.setIfInBounds_toArray, List.set_cons_zero, List.set_cons_succ]
  refine wpAnyB_take (i := 4) (some 7) (Op.load 25 (Operand.tmp 6)) 25 (v := ?_) ⟨_, rfl, rfl, rfl, rfl, rfl⟩ (by kernel_rfl) (by kernel_rfl) (by kernel_rfl) [5, 6, 7] (by kernel_rfl) (fun _ _ _ h => h) hS (fun w' hSw => ?_) ?_
  rotate_left
  · obtain ⟨b3, b4⟩ := hSw
    unfold bareOp
    go_simp
    try with_reducible rfl
  simp only [Act.put, List.setIfInBounds_toArray, List.set_cons_zero, List.set_cons_succ]
  refine wpAnyB_only (i := 2) (some 5) (Op.call { callee := Callee.value (Operand.func 18), args := #[Operand.tmp 4], argTypes := #[25] }) 25 ⟨_, rfl, rfl, rfl, rfl, rfl⟩ (by kernel_rfl) (fun K hK => ?_)
  unfold bareOp
  go_wp2_with fail
  have hz1 := F_r.out.lt
  refine (rtwin64_own _ (H1.out.keep HBW.out) k1 (by omega)).mono ?_
  rintro e w8 ⟨v1, rfl, ho1, hb1⟩
  obtain ⟨t1, u1c, rfl⟩ := ho1.sl
  replace F_x := Lib.hid (F_x.out.keep hb1)
  replace F_r := Lib.hid (F_r.out.keep hb1)
  replace HBW := Lib.hid (HBW.out.trans (hb1.mono HBW.out.size))
  replace hS := And.intro F_x.out.c0 F_x.out.c1
  have F_1 := Lib.hid (ho1.mono (n₀ := w.heap.size + 2) (Nat.succ_le_of_lt hz1))
  clear hb1 ho1 hz1
  refine hK.out _ _ (fun _ => hS) ?_
  clear hK K
  try simp only [Act.put, List.setIfInBounds_toArray, List.set_cons_zero, List.set_cons_succ]
  refine wpAnyB_only (i := 5) (some 8) (Op.call { callee := Callee.value (Operand.func 18), args := #[Operand.tmp 7], argTypes := #[25] }) 25 ⟨_, rfl, rfl, rfl, rfl, rfl⟩ (by kernel_rfl) (fun K hK => ?_)
  unfold bareOp
  go_wp2_with fail
  have hz2 := F_r.out.lt
  refine (rtwin64_own _ (H2.out.keep HBW.out) k2 (by omega)).mono ?_
  rintro e w8 ⟨v2, rfl, ho2, hb2⟩
  obtain ⟨t2, u2c, rfl⟩ := ho2.sl
  replace F_x := Lib.hid (F_x.out.keep hb2)
  replace F_r := Lib.hid (F_r.out.keep hb2)
  replace F_1 := Lib.hid (F_1.out.keep hb2)
  replace HBW := Lib.hid (HBW.out.trans (hb2.mono HBW.out.size))
  replace hS := And.intro F_x.out.c0 F_x.out.c1
  have F_2 := Lib.hid (ho2.mono (n₀ := w.heap.size + 2) (Nat.succ_le_of_lt hz2))
  clear hb2 ho2 hz2
  refine hK.out _ _ (fun _ => hS) ?_
  clear hK K
  try simp only [Act.put, List.setIfInBounds_toArray, List.set_cons_zero, List.set_cons_succ]
  refine wpAnyB_takeP (i := 6) (some 9) (Op.build 27 #[(0, Operand.tmp 5), (1, Operand.tmp 8)]) 27 (v := ?_) ⟨_, rfl, rfl, rfl, rfl, rfl⟩ (by kernel_rfl) (by kernel_rfl) (by kernel_rfl) (by kernel_rfl) (fun _ _ _ h => h) (fun _ => hS) (fun w' => ?_) ?_
  rotate_left
  · unfold bareOp
    go_simp
    try with_reducible rfl
  simp only [Act.put, List.setIfInBounds_toArray, List.set_cons_zero, List.set_cons_succ]
  refine wpAnyB_only (i := 7) none (Op.store 27 (Operand.tmp 2) (Operand.tmp 9)) 0 ⟨_, rfl, rfl, rfl, rfl, rfl⟩ (by kernel_rfl) (fun K hK => ?_)
  unfold bareOp
  obtain ⟨za, zb, zc, zd, -⟩ := id F_r.out
  go_wp2_with fail
  refine hK.out _ _ (fun h => absurd (h.symm.trans (by kernel_rfl : _ = true)) (by decide)) ?_
  clear hK K
  try simp only [Act.put, List.setIfInBounds_toArray, List.set_cons_zero, List.set_cons_succ]
  refine wpAnyB_done (by kernel_rfl) ?_ _
  clear hS
  go_wp2_with fail
  exact bodyPost_ret (res_deal1 rfl (F_r.out.stored _ _) _ rfl) rfl ⟨_, _, rfl, ((F_1.out.far (b := w.heap.size + 1) (o := 0) (Nat.lt_succ_self _) _).far (b := w.heap.size + 1) (o := 1) (Nat.lt_succ_self _) _).mono (by omega), ((F_2.out.far (b := w.heap.size + 1) (o := 0) (Nat.lt_succ_self _) _).far (b := w.heap.size + 1) (o := 1) (Nat.lt_succ_self _) _).mono (by omega), (HBW.out.setCell (p := ⟨w.heap.size + 1, 0, none⟩) (by show w.heap.size ≤ w.heap.size + 1; omega) _).setCell (p := ⟨w.heap.size + 1, 1, none⟩) (by show w.heap.size ≤ w.heap.size + 1; omega) _⟩
end Go.Proofs.Ytjfaaicbojnpaaa
