/- proof.pow, mul, negative, equation, EqualHolds. -/
import Derived.Test.YtlbldpkgnonbpaaDoorPrs
import Derived.Test.YtlbldpkgnonbpaaDoorStage
import Derived.Test.YtlbldpkgnonbpaaDoorGen
namespace Go.Proofs.YtlbldpkgnonbpaaDoor
open Go.RowKit Num
set_option linter.unusedSimpArgs false
set_option linter.unusedVariables false

set_option maxHeartbeats 1000000 in
theorem ppow_ok {P Q G a x v : Int} (w : World) (hH : Has P Q G) (a0 : 0 ≤ a) (aP : a < P) (ux : U64 x) (hv : powm a x P = v) :
    Calls Tryd.prog 78 #[.agg #[.int .u64 P, .int .u64 Q, .int .u64 G], .int .u64 a, .int .u64 x] w fun e w' => e = .returned (.int .u64 v) ∧ Below w.heap.size w w' := by
  have HH := Lib.hid hH
  have HV := Lib.hid hv
  clear hH hv
  have UX := Lib.hid ux
  clear ux
  have F_g := Lib.hid (show Boxed (w.alloc (.cells #[.int .u64 P, .int .u64 Q, .int .u64 G] 49)) (w.heap.size) P Q G from Boxed.at _ P Q G _ (w.heap.size) (by simp))
  have HBW := Lib.hid (show Below w.heap.size w (w.alloc (.cells #[.int .u64 P, .int .u64 Q, .int .u64 G] 49)) from (Below.refl _ _).alloc (by simp <;> omega) _)
  go_enter Tryd.func78, Tryd.ntmps78
  obtain ⟨x0a, x0b, x0c, -⟩ := id F_g.out
  go_wp2_with fail
  clear x0a x0b x0c
  refine (pow_ok P Q G a x v _ HH.out a0 aP UX.out HV.out).mono ?_
  rintro e w1 ⟨rfl, hb1⟩
  replace F_g := Lib.hid (F_g.out.keep hb1)
  replace HBW := Lib.hid (HBW.out.trans (hb1.mono HBW.out.size))
  clear hb1
  obtain ⟨x0a, x0b, x0c, -⟩ := id F_g.out
  go_wp2_with fail
  go_ret
  exact ⟨rfl, HBW.out⟩

set_option maxHeartbeats 1000000 in
theorem pmul_ok {P Q G a b v : Int} (w : World) (hH : Has P Q G) (a0 : 0 ≤ a) (aP : a < P) (b0 : 0 ≤ b) (bP : b < P) (hv : a * b % P = v) :
    Calls Tryd.prog 77 #[.agg #[.int .u64 P, .int .u64 Q, .int .u64 G], .int .u64 a, .int .u64 b] w fun e w' => e = .returned (.int .u64 v) ∧ Below w.heap.size w w' := by
  have HH := Lib.hid hH
  have HV := Lib.hid hv
  clear hH hv
  have F_g := Lib.hid (show Boxed (w.alloc (.cells #[.int .u64 P, .int .u64 Q, .int .u64 G] 49)) (w.heap.size) P Q G from Boxed.at _ P Q G _ (w.heap.size) (by simp))
  have HBW := Lib.hid (show Below w.heap.size w (w.alloc (.cells #[.int .u64 P, .int .u64 Q, .int .u64 G] 49)) from (Below.refl _ _).alloc (by simp <;> omega) _)
  go_enter Tryd.func77, Tryd.ntmps77
  obtain ⟨x0a, x0b, x0c, -⟩ := id F_g.out
  go_wp2_with fail
  clear x0a x0b x0c
  refine (mul_ok P Q G a b v _ HH.out a0 aP b0 bP HV.out).mono ?_
  rintro e w1 ⟨rfl, hb1⟩
  replace F_g := Lib.hid (F_g.out.keep hb1)
  replace HBW := Lib.hid (HBW.out.trans (hb1.mono HBW.out.size))
  clear hb1
  obtain ⟨x0a, x0b, x0c, -⟩ := id F_g.out
  go_wp2_with fail
  go_ret
  exact ⟨rfl, HBW.out⟩

set_option maxHeartbeats 1000000 in
theorem pneg_ok {P Q G x v : Int} (w : World) (hH : Has P Q G) (x0 : 0 ≤ x) (xQ : x < Q) (hv : (0 - x) % Q = v) :
    Calls Tryd.prog 76 #[.agg #[.int .u64 P, .int .u64 Q, .int .u64 G], .int .u64 x] w fun e w' => e = .returned (.int .u64 v) ∧ Below w.heap.size w w' := by
  have HH := Lib.hid hH
  have HV := Lib.hid hv
  clear hH hv
  have q0 : 0 < Q := by have := HH.out; unfold Has at this; omega
  have F_g := Lib.hid (show Boxed (w.alloc (.cells #[.int .u64 P, .int .u64 Q, .int .u64 G] 49)) (w.heap.size) P Q G from Boxed.at _ P Q G _ (w.heap.size) (by simp))
  have HBW := Lib.hid (show Below w.heap.size w (w.alloc (.cells #[.int .u64 P, .int .u64 Q, .int .u64 G] 49)) from (Below.refl _ _).alloc (by simp <;> omega) _)
  go_enter Tryd.func76, Tryd.ntmps76
  obtain ⟨x0a, x0b, x0c, -⟩ := id F_g.out
  go_wp2_with fail
  clear x0a x0b x0c
  refine (subExp_ok P Q G 0 x v _ HH.out (Int.le_refl 0) q0 x0 xQ HV.out).mono ?_
  rintro e w1 ⟨rfl, hb1⟩
  replace F_g := Lib.hid (F_g.out.keep hb1)
  replace HBW := Lib.hid (HBW.out.trans (hb1.mono HBW.out.size))
  clear hb1
  obtain ⟨x0a, x0b, x0c, -⟩ := id F_g.out
  go_wp2_with fail
  go_ret
  exact ⟨rfl, HBW.out⟩

set_option maxHeartbeats 4000000 in
theorem peqn_any {P Q G base y r c s : Int} {v : Bool} (w : World) (hH : Has P Q G) (b0 : 0 ≤ base) (bP : base < P) (y0 : 0 ≤ y) (yP : y < P) (r0 : 0 ≤ r) (rP : r < P) (uc : U64 c) (us : U64 s) (hv : v = true ↔ powm base s P = r * powm y c P % P) :
    Calls Tryd.prog 122 #[.agg #[.int .u64 P, .int .u64 Q, .int .u64 G], .int .u64 base, .int .u64 y, .int .u64 r, .int .u64 c, .int .u64 s] w fun e w' => e = .returned (.bool v) ∧ Below w.heap.size w w' := by
  obtain ⟨a, ha⟩ : ∃ a, powm base s P = a := ⟨_, rfl⟩
  obtain ⟨b, hb⟩ : ∃ b, powm y c P = b := ⟨_, rfl⟩
  have p5 := hH.1
  have q0 : 0 ≤ b := by rw [← hb]; exact powm_nonneg (by omega)
  have qP : b < P := by rw [← hb]; exact powm_lt (by omega)
  obtain ⟨t, ht⟩ : ∃ t, r * b % P = t := ⟨_, rfl⟩
  have HZ := Lib.hid (show (a == t) = v by rw [ha, hb, ht] at hv; rw [Bool.eq_iff_iff, hv]; simp)
  have HA := Lib.hid ha
  have HB := Lib.hid hb
  have HT := Lib.hid ht
  have UC := Lib.hid uc
  have US := Lib.hid us
  have HH := Lib.hid hH
  clear ha hb ht hv uc us hH
  have F_g := Lib.hid (show Boxed (w.alloc (.cells #[.int .u64 P, .int .u64 Q, .int .u64 G] 49)) (w.heap.size) P Q G from Boxed.at _ P Q G _ (w.heap.size) (by simp))
  have HBW := Lib.hid (show Below w.heap.size w (w.alloc (.cells #[.int .u64 P, .int .u64 Q, .int .u64 G] 49)) from (Below.refl _ _).alloc (by simp <;> omega) _)
  go_enter Tryd.func122, Tryd.ntmps122
  obtain ⟨x0a, x0b, x0c, -⟩ := id F_g.out
  go_wp2_with fail
  clear x0a x0b x0c
  replace F_g := Lib.hid F_g.out.drew
  replace HBW := Lib.hid HBW.out.drew
  have hS := F_g.out.s
  refine wp_region_stage 12 (fun w' => SBox w' w.heap.size P Q G) (by kernel_rfl) ?_
  refine wpAnyB_take (i := 0) (some 13) (Op.load 49 (Operand.tmp 6)) 49 (v := ?_) ⟨_, rfl, rfl, rfl, rfl, rfl⟩ (by kernel_rfl) (by kernel_rfl) (by kernel_rfl) [3, 9, 10, 11, 12] (by kernel_rfl) (fun _ _ _ h => h) hS (fun w' hSw => ?_) ?_
  rotate_left
  · obtain ⟨s0, s1, s2⟩ := hSw
    unfold bareOp
    go_simp
    try with_reducible rfl
  simp only [Act.put, List.setIfInBounds_toArray, List.set_cons_zero, List.set_cons_succ]
  refine wpAnyB_takeP (i := 1) (some 14) (Op.move (Operand.tmp 1)) 24 (v := ?_) ⟨_, rfl, rfl, rfl, rfl, rfl⟩ (by kernel_rfl) (by kernel_rfl) (by kernel_rfl) (by kernel_rfl) (fun _ _ _ h => h) (fun _ => hS) (fun w' => ?_) ?_
  rotate_left
  · unfold bareOp
    go_simp
    try with_reducible rfl
  simp only [Act.put, List.setIfInBounds_toArray, List.set_cons_zero, List.set_cons_succ]
  refine wpAnyB_takeP (i := 2) (some 15) (Op.move (Operand.tmp 5)) 24 (v := ?_) ⟨_, rfl, rfl, rfl, rfl, rfl⟩ (by kernel_rfl) (by kernel_rfl) (by kernel_rfl) (by kernel_rfl) (fun _ _ _ h => h) (fun _ => hS) (fun w' => ?_) ?_
  rotate_left
  · unfold bareOp
    go_simp
    try with_reducible rfl
  simp only [Act.put, List.setIfInBounds_toArray, List.set_cons_zero, List.set_cons_succ]
  refine wpAnyB_take (i := 4) (some 17) (Op.load 49 (Operand.tmp 6)) 49 (v := ?_) ⟨_, rfl, rfl, rfl, rfl, rfl⟩ (by kernel_rfl) (by kernel_rfl) (by kernel_rfl) [10, 11, 12] (by kernel_rfl) (fun _ _ _ h => h) hS (fun w' hSw => ?_) ?_
  rotate_left
  · obtain ⟨s0, s1, s2⟩ := hSw
    unfold bareOp
    go_simp
    try with_reducible rfl
  simp only [Act.put, List.setIfInBounds_toArray, List.set_cons_zero, List.set_cons_succ]
  refine wpAnyB_takeP (i := 5) (some 18) (Op.move (Operand.tmp 3)) 24 (v := ?_) ⟨_, rfl, rfl, rfl, rfl, rfl⟩ (by kernel_rfl) (by kernel_rfl) (by kernel_rfl) (by kernel_rfl) (fun _ _ _ h => h) (fun _ => hS) (fun w' => ?_) ?_
  rotate_left
  · unfold bareOp
    go_simp
    try with_reducible rfl
  simp only [Act.put, List.setIfInBounds_toArray, List.set_cons_zero, List.set_cons_succ]
  refine wpAnyB_take (i := 6) (some 19) (Op.load 49 (Operand.tmp 6)) 49 (v := ?_) ⟨_, rfl, rfl, rfl, rfl, rfl⟩ (by kernel_rfl) (by kernel_rfl) (by kernel_rfl) [9, 10, 11, 12] (by kernel_rfl) (fun _ _ _ h => h) hS (fun w' hSw => ?_) ?_
  rotate_left
  · obtain ⟨s0, s1, s2⟩ := hSw
    unfold bareOp
    go_simp
    try with_reducible rfl
  simp only [Act.put, List.setIfInBounds_toArray, List.set_cons_zero, List.set_cons_succ]
  refine wpAnyB_takeP (i := 7) (some 20) (Op.move (Operand.tmp 2)) 24 (v := ?_) ⟨_, rfl, rfl, rfl, rfl, rfl⟩ (by kernel_rfl) (by kernel_rfl) (by kernel_rfl) (by kernel_rfl) (fun _ _ _ h => h) (fun _ => hS) (fun w' => ?_) ?_
  rotate_left
  · unfold bareOp
    go_simp
    try with_reducible rfl
  simp only [Act.put, List.setIfInBounds_toArray, List.set_cons_zero, List.set_cons_succ]
  refine wpAnyB_takeP (i := 8) (some 21) (Op.move (Operand.tmp 4)) 24 (v := ?_) ⟨_, rfl, rfl, rfl, rfl, rfl⟩ (by kernel_rfl) (by kernel_rfl) (by kernel_rfl) (by kernel_rfl) (fun _ _ _ h => h) (fun _ => hS) (fun w' => ?_) ?_
  rotate_left
  · unfold bareOp
    go_simp
    try with_reducible rfl
  simp only [Act.put, List.setIfInBounds_toArray, List.set_cons_zero, List.set_cons_succ]
  refine wpAnyB_only (i := 3) (some 16) (Op.call { callee := Callee.value (Operand.func 78), args := #[Operand.tmp 13, Operand.tmp 14, Operand.tmp 15], argTypes := #[49, 24, 24] }) 24 ⟨_, rfl, rfl, rfl, rfl, rfl⟩ (by kernel_rfl) (fun K hK => ?_)
  unfold bareOp
  go_wp2_with (go_at_call 78; refine (ppow_ok _ HH.out b0 bP US.out HA.out).mono ?_; rintro e w1 ⟨rfl, hb1⟩)
  replace F_g := Lib.hid (F_g.out.keep hb1)
  replace HBW := Lib.hid (HBW.out.trans (hb1.mono HBW.out.size))
  replace hS := F_g.out.s
  clear hb1
  refine hK.out _ _ (fun _ => hS) ?_
  clear hK K
  try simp only [Act.put, List.setIfInBounds_toArray, List.set_cons_zero, List.set_cons_succ]
  refine wpAnyB_only (i := 9) (some 22) (Op.call { callee := Callee.value (Operand.func 78), args := #[Operand.tmp 19, Operand.tmp 20, Operand.tmp 21], argTypes := #[49, 24, 24] }) 24 ⟨_, rfl, rfl, rfl, rfl, rfl⟩ (by kernel_rfl) (fun K hK => ?_)
  unfold bareOp
  go_wp2_with (go_at_call 78; refine (ppow_ok _ HH.out y0 yP UC.out HB.out).mono ?_; rintro e w2 ⟨rfl, hb2⟩)
  replace F_g := Lib.hid (F_g.out.keep hb2)
  replace HBW := Lib.hid (HBW.out.trans (hb2.mono HBW.out.size))
  replace hS := F_g.out.s
  clear hb2
  refine hK.out _ _ (fun _ => hS) ?_
  clear hK K
  try simp only [Act.put, List.setIfInBounds_toArray, List.set_cons_zero, List.set_cons_succ]
  refine wpAnyB_only (i := 10) (some 23) (Op.call { callee := Callee.value (Operand.func 77), args := #[Operand.tmp 17, Operand.tmp 18, Operand.tmp 22], argTypes := #[49, 24, 24] }) 24 ⟨_, rfl, rfl, rfl, rfl, rfl⟩ (by kernel_rfl) (fun K hK => ?_)
  unfold bareOp
  go_wp2_with (go_at_call 77; refine (pmul_ok _ HH.out r0 rP q0 qP HT.out).mono ?_; rintro e w3 ⟨rfl, hb3⟩)
  replace F_g := Lib.hid (F_g.out.keep hb3)
  replace HBW := Lib.hid (HBW.out.trans (hb3.mono HBW.out.size))
  replace hS := F_g.out.s
  clear hb3
  refine hK.out _ _ (fun _ => hS) ?_
  clear hK K
  try simp only [Act.put, List.setIfInBounds_toArray, List.set_cons_zero, List.set_cons_succ]
  refine wpAnyB_takeP (i := 11) (some 24) (Op.binOp BinOp.eql 24 (Operand.tmp 16) (Operand.tmp 23) 24) 4 (v := ?_) ⟨_, rfl, rfl, rfl, rfl, rfl⟩ (by kernel_rfl) (by kernel_rfl) (by kernel_rfl) (by kernel_rfl) (fun _ _ _ h => h) (fun _ => hS) (fun w' => ?_) ?_
  rotate_left
  · unfold bareOp
    go_simp
    try with_reducible rfl
  simp only [Act.put, List.setIfInBounds_toArray, List.set_cons_zero, List.set_cons_succ]
  refine wpAnyB_only (i := 12) (some 12) (Op.assign (Operand.tmp 24)) 4 ⟨_, rfl, rfl, rfl, rfl, rfl⟩ (by kernel_rfl) (fun K hK => ?_)
  unfold bareOp
  go_wp2_with fail
  refine hK.out _ _ (fun h => absurd (h.symm.trans (by kernel_rfl : _ = true)) (by decide)) ?_
  clear hK K
  try simp only [Act.put, List.setIfInBounds_toArray, List.set_cons_zero, List.set_cons_succ]
  refine wpAnyB_done (by kernel_rfl) ?_ _
  obtain ⟨x0a, x0b, x0c, -⟩ := id F_g.out
  go_wp2_with fail
  go_ret
  exact ⟨ret_bool HZ.out, HBW.out⟩

/-- Three numbers in the three cells of a block. -/
structure Three (w : World) (b : Nat) (x y z : Int) : Prop where
  c0 : w.cell? ⟨b, 0, none⟩ = some (.int .u64 x)
  c1 : w.cell? ⟨b, 1, none⟩ = some (.int .u64 y)
  c2 : w.cell? ⟨b, 2, none⟩ = some (.int .u64 z)
  lt : b < w.heap.size
theorem Three.at (w : World) (x y z : Int) (T : TypeId) (b : Nat) (hb : b = w.heap.size) : Three (w.alloc (.cells #[.int .u64 x, .int .u64 y, .int .u64 z] T)) b x y z := by
  subst hb
  refine ⟨?_, ?_, ?_, by simp⟩
  · rw [World.cell?_alloc_new]; rfl
  · rw [World.cell?_alloc_new]; rfl
  · rw [World.cell?_alloc_new]; rfl
theorem Three.keep {w w' : World} {b : Nat} {x y z : Int} (h : Three w b x y z) (hb : Below w.heap.size w w') : Three w' b x y z :=
  ⟨(hb.cell (p := ⟨b, 0, none⟩) h.lt).trans h.c0, (hb.cell (p := ⟨b, 1, none⟩) h.lt).trans h.c1, (hb.cell (p := ⟨b, 2, none⟩) h.lt).trans h.c2, Nat.lt_of_lt_of_le h.lt hb.size⟩
theorem Three.drew {w : World} {b : Nat} {x y z : Int} (h : Three w b x y z) : Three w.drew b x y z := h.keep (Below.refl _ _).drew
theorem Three.alloc {w : World} {b : Nat} {x y z : Int} (h : Three w b x y z) (o : Obj) : Three (w.alloc o) b x y z := h.keep ((Below.refl _ _).alloc (Nat.le_refl _) o)

end Go.Proofs.YtlbldpkgnonbpaaDoor
