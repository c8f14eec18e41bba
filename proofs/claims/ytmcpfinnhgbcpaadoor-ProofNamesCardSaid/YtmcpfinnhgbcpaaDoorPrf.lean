/- proof.pow, mul, negative, equation, EqualHolds. -/
import Derived.Test.YtmcpfinnhgbcpaaDoorPrs
import Derived.Test.YtmcpfinnhgbcpaaDoorStage
import Derived.Test.YtmcpfinnhgbcpaaDoorGen
namespace Go.Proofs.YtmcpfinnhgbcpaaDoor
open Go.RowKit Num
set_option linter.unusedSimpArgs false
set_option linter.unusedVariables false

set_option maxHeartbeats 1000000 in
theorem ppow_ok {P Q G a x v : Int} (w : World) (hH : Has P Q G) (a0 : 0 ≤ a) (aP : a < P) (ux : U64 x) (hv : powm a x P = v) :
    Calls Tryd.prog 31 #[.agg #[.int .u64 P, .int .u64 Q, .int .u64 G], .int .u64 a, .int .u64 x] w fun e w' => e = .returned (.int .u64 v) ∧ Below w.heap.size w w' := by
  have HH := Lib.hid hH
  have HV := Lib.hid hv
  clear hH hv
  have UX := Lib.hid ux
  clear ux
  have F_g := Lib.hid (show Boxed (w.alloc (.cells #[.int .u64 P, .int .u64 Q, .int .u64 G] 24)) (w.heap.size) P Q G from Boxed.at _ P Q G _ (w.heap.size) (by simp))
  have HBW := Lib.hid (show Below w.heap.size w (w.alloc (.cells #[.int .u64 P, .int .u64 Q, .int .u64 G] 24)) from (Below.refl _ _).alloc (by simp <;> omega) _)
  go_enter Tryd.func31, Tryd.ntmps31
  obtain ⟨x0a, x0b, x0c, -⟩ := id F_g.out
  go_wp2_with fail
  clear x0a x0b x0c
  refine (pow_ok P Q G a x v _ HH.out a0 aP UX.out HV.out).mono ?_
  rintro e w1 ⟨rfl, hb1⟩
  replace F_g := Lib.hid (F_g.out.keep hb1)
  replace HBW := Lib.hid (HBW.out.trans (hb1.mono HBW.out.size))
  clear hb1
  obtain ⟨x0a, x0b, x0c, -⟩ := id F_g.out
  go_wp2_with fail
  go_ret
  exact ⟨rfl, HBW.out⟩

set_option maxHeartbeats 1000000 in
theorem pmul_ok {P Q G a b v : Int} (w : World) (hH : Has P Q G) (a0 : 0 ≤ a) (aP : a < P) (b0 : 0 ≤ b) (bP : b < P) (hv : a * b % P = v) :
    Calls Tryd.prog 52 #[.agg #[.int .u64 P, .int .u64 Q, .int .u64 G], .int .u64 a, .int .u64 b] w fun e w' => e = .returned (.int .u64 v) ∧ Below w.heap.size w w' := by
  have HH := Lib.hid hH
  have HV := Lib.hid hv
  clear hH hv
  have F_g := Lib.hid (show Boxed (w.alloc (.cells #[.int .u64 P, .int .u64 Q, .int .u64 G] 24)) (w.heap.size) P Q G from Boxed.at _ P Q G _ (w.heap.size) (by simp))
  have HBW := Lib.hid (show Below w.heap.size w (w.alloc (.cells #[.int .u64 P, .int .u64 Q, .int .u64 G] 24)) from (Below.refl _ _).alloc (by simp <;> omega) _)
  go_enter Tryd.func52, Tryd.ntmps52
  obtain ⟨x0a, x0b, x0c, -⟩ := id F_g.out
  go_wp2_with fail
  clear x0a x0b x0c
  refine (mul_ok P Q G a b v _ HH.out a0 aP b0 bP HV.out).mono ?_
  rintro e w1 ⟨rfl, hb1⟩
  replace F_g := Lib.hid (F_g.out.keep hb1)
  replace HBW := Lib.hid (HBW.out.trans (hb1.mono HBW.out.size))
  clear hb1
  obtain ⟨x0a, x0b, x0c, -⟩ := id F_g.out
  go_wp2_with fail
  go_ret
  exact ⟨rfl, HBW.out⟩

set_option maxHeartbeats 1000000 in
theorem pneg_ok {P Q G x v : Int} (w : World) (hH : Has P Q G) (x0 : 0 ≤ x) (xQ : x < Q) (hv : (0 - x) % Q = v) :
    Calls Tryd.prog 51 #[.agg #[.int .u64 P, .int .u64 Q, .int .u64 G], .int .u64 x] w fun e w' => e = .returned (.int .u64 v) ∧ Below w.heap.size w w' := by
  have HH := Lib.hid hH
  have HV := Lib.hid hv
  clear hH hv
  have q0 : 0 < Q := by have := HH.out; unfold Has at this; omega
  have F_g := Lib.hid (show Boxed (w.alloc (.cells #[.int .u64 P, .int .u64 Q, .int .u64 G] 24)) (w.heap.size) P Q G from Boxed.at _ P Q G _ (w.heap.size) (by simp))
  have HBW := Lib.hid (show Below w.heap.size w (w.alloc (.cells #[.int .u64 P, .int .u64 Q, .int .u64 G] 24)) from (Below.refl _ _).alloc (by simp <;> omega) _)
  go_enter Tryd.func51, Tryd.ntmps51
  obtain ⟨x0a, x0b, x0c, -⟩ := id F_g.out
  go_wp2_with fail
  clear x0a x0b x0c
  refine (subExp_ok P Q G 0 x v _ HH.out (Int.le_refl 0) q0 x0 xQ HV.out).mono ?_
  rintro e w1 ⟨rfl, hb1⟩
  replace F_g := Lib.hid (F_g.out.keep hb1)
  replace HBW := Lib.hid (HBW.out.trans (hb1.mono HBW.out.size))
  clear hb1
  obtain ⟨x0a, x0b, x0c, -⟩ := id F_g.out
  go_wp2_with fail
  go_ret
  exact ⟨rfl, HBW.out⟩

set_option maxHeartbeats 4000000 in
theorem peqn_any {P Q G base y r c s : Int} {v : Bool} (w : World) (hH : Has P Q G) (b0 : 0 ≤ base) (bP : base < P) (y0 : 0 ≤ y) (yP : y < P) (r0 : 0 ≤ r) (rP : r < P) (uc : U64 c) (us : U64 s) (hv : v = true ↔ powm base s P = r * powm y c P % P) :
    Calls Tryd.prog 37 #[.agg #[.int .u64 P, .int .u64 Q, .int .u64 G], .int .u64 base, .int .u64 y, .int .u64 r, .int .u64 c, .int .u64 s] w fun e w' => e = .returned (.bool v) ∧ Below w.heap.size w w' := by
  obtain ⟨a, ha⟩ : ∃ a, powm base s P = a := ⟨_, rfl⟩
  obtain ⟨b, hb⟩ : ∃ b, powm y c P = b := ⟨_, rfl⟩
  have p5 := hH.1
  have q0 : 0 ≤ b := by rw [← hb]; exact powm_nonneg (by omega)
  have qP : b < P := by rw [← hb]; exact powm_lt (by omega)
  obtain ⟨t, ht⟩ : ∃ t, r * b % P = t := ⟨_, rfl⟩
  have HZ := Lib.hid (show (a == t) = v by rw [ha, hb, ht] at hv; rw [Bool.eq_iff_iff, hv]; simp)
  have HA := Lib.hid ha
  have HB := Lib.hid hb
  have HT := Lib.hid ht
  have UC := Lib.hid uc
  have US := Lib.hid us
  have HH := Lib.hid hH
  clear ha hb ht hv uc us hH
  have F_g := Lib.hid (show Boxed (w.alloc (.cells #[.int .u64 P, .int .u64 Q, .int .u64 G] 24)) (w.heap.size) P Q G from Boxed.at _ P Q G _ (w.heap.size) (by simp))
  have HBW := Lib.hid (show Below w.heap.size w (w.alloc (.cells #[.int .u64 P, .int .u64 Q, .int .u64 G] 24)) from (Below.refl _ _).alloc (by simp <;> omega) _)
  go_enter Tryd.func37, Tryd.ntmps37
  obtain ⟨x0a, x0b, x0c, -⟩ := id F_g.out
  go_wp2_with fail
  clear x0a x0b x0c
  replace F_g := Lib.hid F_g.out.drew
  replace HBW := Lib.hid HBW.out.drew
  have hS := F_g.out.s
  refine wp_region_stage 12 (fun w' => SBox w' w.heap.size P Q G) (by kernel_rfl) ?_
  refine wpAnyB_take (i := 0) (some 13) (Op.load 24 (Operand.tmp 6)) 24 (v := ?_) ⟨_, rfl, rfl, rfl, rfl, rfl⟩ (by kernel_rfl) (by kernel_rfl) (by kernel_rfl) [3, 9, 10, 11, 12] (by kernel_rfl) (fun _ _ _ h => h) hS (fun w' hSw => ?_) ?_
  rotate_left
  · obtain ⟨s0, s1, s2⟩ := hSw
    unfold bareOp
    go_simp
    try with_reducible rfl
  simp only [Act.put, List.setIfInBounds_toArray, List.set_cons_zero, List.set_cons_succ]
  refine wpAnyB_takeP (i := 1) (some 14) (Op.move (Operand.tmp 1)) 22 (v := ?_) ⟨_, rfl, rfl, rfl, rfl, rfl⟩ (by kernel_rfl) (by kernel_rfl) (by kernel_rfl) (by kernel_rfl) (fun _ _ _ h => h) (fun _ => hS) (fun w' => ?_) ?_
  rotate_left
  · unfold bareOp
    go_simp
    try with_reducible rfl
  simp only [Act.put, List.setIfInBounds_toArray, List.set_cons_zero, List.set_cons_succ]
  refine wpAnyB_takeP (i := 2) (some 15) (Op.move (Operand.tmp 5)) 22 (v := ?_) ⟨_, rfl, rfl, rfl, rfl, rfl⟩ (by kernel_rfl) (by kernel_rfl) (by kernel_rfl) (by kernel_rfl) (fun _ _ _ h => h) (fun _ => hS) (fun w' => ?_) ?_
  rotate_left
  · unfold bareOp
    go_simp
    try with_reducible rfl
  simp only [Act.put, List.setIfInBounds_toArray, List.set_cons_zero, List.set_cons_succ]
  refine wpAnyB_take (i := 4) (some 17) (Op.load 24 (Operand.tmp 6)) 24 (v := ?_) ⟨_, rfl, rfl, rfl, rfl, rfl⟩ (by kernel_rfl) (by kernel_rfl) (by kernel_rfl) [10, 11, 12] (by kernel_rfl) (fun _ _ _ h => h) hS (fun w' hSw => ?_) ?_
  rotate_left
  · obtain ⟨s0, s1, s2⟩ := hSw
    unfold bareOp
    go_simp
    try with_reducible rfl
  simp only [Act.put, List.setIfInBounds_toArray, List.set_cons_zero, List.set_cons_succ]
  refine wpAnyB_takeP (i := 5) (some 18) (Op.move (Operand.tmp 3)) 22 (v := ?_) ⟨_, rfl, rfl, rfl, rfl, rfl⟩ (by kernel_rfl) (by kernel_rfl) (by kernel_rfl) (by kernel_rfl) (fun _ _ _ h => h) (fun _ => hS) (fun w' => ?_) ?_
  rotate_left
  · unfold bareOp
    go_simp
    try with_reducible rfl
  simp only [Act.put, List.setIfInBounds_toArray, List.set_cons_zero, List.set_cons_succ]
  refine wpAnyB_take (i := 6) (some 19) (Op.load 24 (Operand.tmp 6)) 24 (v := ?_) ⟨_, rfl, rfl, rfl, rfl, rfl⟩ (by kernel_rfl) (by kernel_rfl) (by kernel_rfl) [9, 10, 11, 12] (by kernel_rfl) (fun _ _ _ h => h) hS (fun w' hSw => ?_) ?_
  rotate_left
  · obtain ⟨s0, s1, s2⟩ := hSw
    unfold bareOp
    go_simp
    try with_reducible rfl
  simp only [Act.put, List.setIfInBounds_toArray, List.set_cons_zero, List.set_cons_succ]
  refine wpAnyB_takeP (i := 7) (some 20) (Op.move (Operand.tmp 2)) 22 (v := ?_) ⟨_, rfl, rfl, rfl, rfl, rfl⟩ (by kernel_rfl) (by kernel_rfl) (by kernel_rfl) (by kernel_rfl) (fun _ _ _ h => h) (fun _ => hS) (fun w' => ?_) ?_
  rotate_left
  · unfold bareOp
    go_simp
    try with_reducible rfl
  simp only [Act.put, List.setIfInBounds_toArray, List.set_cons_zero, List.set_cons_succ]
  refine wpAnyB_takeP (i := 8) (some 21) (Op.move (Operand.tmp 4)) 22 (v := ?_) ⟨_, rfl, rfl, rfl, rfl, rfl⟩ (by kernel_rfl) (by kernel_rfl) (by kernel_rfl) (by kernel_rfl) (fun _ _ _ h => h) (fun _ => hS) (fun w' => ?_) ?_
  rotate_left
  · unfold bareOp
    go_simp
    try with_reducible rfl
  simp only [Act.put, List.setIfInBounds_toArray, List.set_cons_zero, List.set_cons_succ]
  refine wpAnyB_only (i := 3) (some 16) (Op.call { callee := Callee.value (Operand.func 31), args := #[Operand.tmp 13, Operand.tmp 14, Operand.tmp 15], argTypes := #[24, 22, 22] }) 22 ⟨_, rfl, rfl, rfl, rfl, rfl⟩ (by kernel_rfl) (fun K hK => ?_)
  unfold bareOp
  go_wp2_with (go_at_call 31; refine (ppow_ok _ HH.out b0 bP US.out HA.out).mono ?_; rintro e w1 ⟨rfl, hb1⟩)
  replace F_g := Lib.hid (F_g.out.keep hb1)
  replace HBW := Lib.hid (HBW.out.trans (hb1.mono HBW.out.size))
  replace hS := F_g.out.s
  clear hb1
  refine hK.out _ _ (fun _ => hS) ?_
  clear hK K
  try simp only [Act.put, List.setIfInBounds_toArray, List.set_cons_zero, List.set_cons_succ]
  refine wpAnyB_only (i := 9) (some 22) (Op.call { callee := Callee.value (Operand.func 31), args := #[Operand.tmp 19, Operand.tmp 20, Operand.tmp 21], argTypes := #[24, 22, 22] }) 22 ⟨_, rfl, rfl, rfl, rfl, rfl⟩ (by kernel_rfl) (fun K hK => ?_)
  unfold bareOp
  go_wp2_with (go_at_call 31; refine (ppow_ok _ HH.out y0 yP UC.out HB.out).mono ?_; rintro e w2 ⟨rfl, hb2⟩)
  replace F_g := Lib.hid (F_g.out.keep hb2)
  replace HBW := Lib.hid (HBW.out.trans (hb2.mono HBW.out.size))
  replace hS := F_g.out.s
  clear hb2
  refine hK.out _ _ (fun _ => hS) ?_
  clear hK K
  try simp only [Act.put, List.setIfInBounds_toArray, List.set_cons_zero, List.set_cons_succ]
  refine wpAnyB_only (i := 10) (some 23) (Op.call { callee := Callee.value (Operand.func 52), args := #[Operand.tmp 17, Operand.tmp 18, Operand.tmp 22], argTypes := #[24, 22, 22] }) 22 ⟨_, rfl, rfl, rfl, rfl, rfl⟩ (by kernel_rfl) (fun K hK => ?_)
  unfold bareOp
  go_wp2_with (go_at_call 52; refine (pmul_ok _ HH.out r0 rP q0 qP HT.out).mono ?_; rintro e w3 ⟨rfl, hb3⟩)
  replace F_g := Lib.hid (F_g.out.keep hb3)
  replace HBW := Lib.hid (HBW.out.trans (hb3.mono HBW.out.size))
  replace hS := F_g.out.s
  clear hb3
  refine hK.out _ _ (fun _ => hS) ?_
  clear hK K
  try simp only [Act.put, List.setIfInBounds_toArray, List.set_cons_zero, List.set_cons_succ]
  refine wpAnyB_takeP (i := 11) (some 24) (Op.binOp BinOp.eql 22 (Operand.tmp 16) (Operand.tmp 23) 22) 4 (v := ?_) ⟨_, rfl, rfl, rfl, rfl, rfl⟩ (by kernel_rfl) (by kernel_rfl) (by kernel_rfl) (by kernel_rfl) (fun _ _ _ h => h) (fun _ => hS) (fun w' => ?_) ?_
  rotate_left
  · unfold bareOp
    go_simp
    try with_reducible rfl
  simp only [Act.put, List.setIfInBounds_toArray, List.set_cons_zero, List.set_cons_succ]
  refine wpAnyB_only (i := 12) (some 12) (Op.assign (Operand.tmp 24)) 4 ⟨_, rfl, rfl, rfl, rfl, rfl⟩ (by kernel_rfl) (fun K hK => ?_)
  unfold bareOp
  go_wp2_with fail
  refine hK.out _ _ (fun h => absurd (h.symm.trans (by kernel_rfl : _ = true)) (by decide)) ?_
  clear hK K
  try simp only [Act.put, List.setIfInBounds_toArray, List.set_cons_zero, List.set_cons_succ]
  refine wpAnyB_done (by kernel_rfl) ?_ _
  obtain ⟨x0a, x0b, x0c, -⟩ := id F_g.out
  go_wp2_with fail
  go_ret
  exact ⟨ret_bool HZ.out, HBW.out⟩

/-- Three numbers in the three cells of a block. -/
structure Three (w : World) (b : Nat) (x y z : Int) : Prop where
  c0 : w.cell? ⟨b, 0, none⟩ = some (.int .u64 x)
  c1 : w.cell? ⟨b, 1, none⟩ = some (.int .u64 y)
  c2 : w.cell? ⟨b, 2, none⟩ = some (.int .u64 z)
  lt : b < w.heap.size
theorem Three.at (w : World) (x y z : Int) (T : TypeId) (b : Nat) (hb : b = w.heap.size) : Three (w.alloc (.cells #[.int .u64 x, .int .u64 y, .int .u64 z] T)) b x y z := by
  subst hb
  refine ⟨?_, ?_, ?_, by simp⟩
  · rw [World.cell?_alloc_new]; rfl
  · rw [World.cell?_alloc_new]; rfl
  · rw [World.cell?_alloc_new]; rfl
theorem Three.keep {w w' : World} {b : Nat} {x y z : Int} (h : Three w b x y z) (hb : Below w.heap.size w w') : Three w' b x y z :=
  ⟨(hb.cell (p := ⟨b, 0, none⟩) h.lt).trans h.c0, (hb.cell (p := ⟨b, 1, none⟩) h.lt).trans h.c1, (hb.cell (p := ⟨b, 2, none⟩) h.lt).trans h.c2, Nat.lt_of_lt_of_le h.lt hb.size⟩
theorem Three.drew {w : World} {b : Nat} {x y z : Int} (h : Three w b x y z) : Three w.drew b x y z := h.keep (Below.refl _ _).drew
theorem Three.alloc {w : World} {b : Nat} {x y z : Int} (h : Three w b x y z) (o : Obj) : Three (w.alloc o) b x y z := h.keep ((Below.refl _ _).alloc (Nat.le_refl _) o)

set_option maxHeartbeats 4000000 in
theorem equalHolds_any {P Q G y a d r s z c e' : Int} {v : Bool} (w : World) (hP : 0 ≤ P) (hQ : 0 ≤ Q) (hG : 0 ≤ G) (hy : 0 ≤ y) (ha : 0 ≤ a) (hd : 0 ≤ d) (hr : 0 ≤ r) (hs : 0 ≤ s) (hz : 0 ≤ z) (hc : 0 ≤ c)
    (h : RetB (askS P Q G [z, c] [y, a, d, r, s]) (powm G z P = r * powm y c P % P ∧ powm a z P = s * powm d c P % P) v e') :
    Calls Tryd.prog 12 #[.agg #[.int .u64 P, .int .u64 Q, .int .u64 G], .int .u64 y, .int .u64 a, .int .u64 d, .agg #[.int .u64 r, .int .u64 s, .int .u64 z], .int .u64 c] w fun e w' => e = .returned (.tuple #[.bool v, .int .i64 e']) ∧ Below w.heap.size w w' := by
  rcases h with ⟨h, hv, rfl⟩ | ⟨h, rfl, hcc⟩
  · obtain ⟨hH, he, hn⟩ := askS_zero h
    have zQ := he z (by simp)
    have cQ := he c (by simp)
    have yP := hn y (by simp)
    have aP := hn a (by simp)
    have dP := hn d (by simp)
    have rP := hn r (by simp)
    have sP := hn s (by simp)
    obtain ⟨p5, p3, hQ', pq, g2, gP⟩ := id hH
    have HR := Lib.hid h
    have HH := Lib.hid hH
    have UC := Lib.hid (U64.of_lt hc (by omega))
    have UZ := Lib.hid (U64.of_lt hz (by omega))
    clear h he hn hH pq
    by_cases h1 : powm G z P = r * powm y c P % P
    case neg =>
      have HE1 := Lib.hid (show false = true ↔ powm G z P = r * powm y c P % P from ⟨fun h => (by cases h), fun h => absurd h h1⟩)
      have HZ := Lib.hid (show false = v by rw [Bool.eq_iff_iff, hv]; simp [h1])
      clear h1 hv
      have F_g := Lib.hid (show Boxed ((((w.alloc (.cells #[.int .u64 P, .int .u64 Q, .int .u64 G] 24)).alloc (.cells #[.int .u64 r, .int .u64 s, .int .u64 z] 26)).alloc (.cells #[.int .u64 z, .int .u64 c] 22)).alloc (.cells #[.int .u64 y, .int .u64 a, .int .u64 d, .int .u64 r, .int .u64 s] 22)) (w.heap.size) P Q G from (((Boxed.at _ P Q G _ (w.heap.size) (by simp)).alloc _).alloc _).alloc _)
      have F_p := Lib.hid (show Three ((((w.alloc (.cells #[.int .u64 P, .int .u64 Q, .int .u64 G] 24)).alloc (.cells #[.int .u64 r, .int .u64 s, .int .u64 z] 26)).alloc (.cells #[.int .u64 z, .int .u64 c] 22)).alloc (.cells #[.int .u64 y, .int .u64 a, .int .u64 d, .int .u64 r, .int .u64 s] 22)) (w.heap.size + 1) r s z from ((Three.at _ r s z _ (w.heap.size + 1) (by simp)).alloc _).alloc _)
      have F_es := Lib.hid (show ShL ((((w.alloc (.cells #[.int .u64 P, .int .u64 Q, .int .u64 G] 24)).alloc (.cells #[.int .u64 r, .int .u64 s, .int .u64 z] 26)).alloc (.cells #[.int .u64 z, .int .u64 c] 22)).alloc (.cells #[.int .u64 y, .int .u64 a, .int .u64 d, .int .u64 r, .int .u64 s] 22)) (some ⟨w.heap.size + 1 + 1, 0, none⟩) 2 2 [z, c] from (ShL.laid _ [z, c] _ _ (w.heap.size + 1 + 1) _ _ (by simp) rfl rfl).alloc _)
      have F_ns := Lib.hid (show ShL ((((w.alloc (.cells #[.int .u64 P, .int .u64 Q, .int .u64 G] 24)).alloc (.cells #[.int .u64 r, .int .u64 s, .int .u64 z] 26)).alloc (.cells #[.int .u64 z, .int .u64 c] 22)).alloc (.cells #[.int .u64 y, .int .u64 a, .int .u64 d, .int .u64 r, .int .u64 s] 22)) (some ⟨w.heap.size + 1 + 1 + 1, 0, none⟩) 5 5 [y, a, d, r, s] from ShL.laid _ [y, a, d, r, s] _ _ (w.heap.size + 1 + 1 + 1) _ _ (by simp) rfl rfl)
      have HBW := Lib.hid (show Below w.heap.size w ((((w.alloc (.cells #[.int .u64 P, .int .u64 Q, .int .u64 G] 24)).alloc (.cells #[.int .u64 r, .int .u64 s, .int .u64 z] 26)).alloc (.cells #[.int .u64 z, .int .u64 c] 22)).alloc (.cells #[.int .u64 y, .int .u64 a, .int .u64 d, .int .u64 r, .int .u64 s] 22)) from ((((Below.refl _ _).alloc (by simp <;> omega) _).alloc (by simp <;> omega) _).alloc (by simp <;> omega) _).alloc (by simp <;> omega) _)
      go_enter Tryd.func12, Tryd.ntmps12
      go_wp2_with fail
      refine (pcheck_any _ hP hQ hG F_es.out F_ns.out (by simp) (by simp) HR.out).mono ?_
      rintro e w1 ⟨rfl, hb1⟩
      replace F_g := Lib.hid (F_g.out.keep hb1)
      replace F_p := Lib.hid (F_p.out.keep hb1)
      replace HBW := Lib.hid (HBW.out.trans (hb1.mono HBW.out.size))
      clear hb1 F_es F_ns
      obtain ⟨x0, x1, x2, -⟩ := id F_g.out
      obtain ⟨x3, x4, x5, -⟩ := id F_p.out
      go_wp2_with fail
      clear x0 x1 x2 x3 x4 x5
      refine (peqn_any (v := false) _ HH.out hG gP hy yP hr rP UC.out UZ.out HE1.out).mono ?_
      rintro e w2 ⟨rfl, hb2⟩
      replace F_g := Lib.hid (F_g.out.keep hb2)
      replace F_p := Lib.hid (F_p.out.keep hb2)
      replace HBW := Lib.hid (HBW.out.trans (hb2.mono HBW.out.size))
      clear hb2
      obtain ⟨x0, x1, x2, -⟩ := id F_g.out
      obtain ⟨x3, x4, x5, -⟩ := id F_p.out
      go_wp2_with fail
      go_ret2
      exact ⟨ret_bi HZ.out rfl, HBW.out⟩
    case pos =>
      have HE1 := Lib.hid h1
      have HE2 := Lib.hid (show v = true ↔ powm a z P = s * powm d c P % P by rw [hv]; simp [h1])
      clear h1 hv
      have F_g := Lib.hid (show Boxed ((((w.alloc (.cells #[.int .u64 P, .int .u64 Q, .int .u64 G] 24)).alloc (.cells #[.int .u64 r, .int .u64 s, .int .u64 z] 26)).alloc (.cells #[.int .u64 z, .int .u64 c] 22)).alloc (.cells #[.int .u64 y, .int .u64 a, .int .u64 d, .int .u64 r, .int .u64 s] 22)) (w.heap.size) P Q G from (((Boxed.at _ P Q G _ (w.heap.size) (by simp)).alloc _).alloc _).alloc _)
      have F_p := Lib.hid (show Three ((((w.alloc (.cells #[.int .u64 P, .int .u64 Q, .int .u64 G] 24)).alloc (.cells #[.int .u64 r, .int .u64 s, .int .u64 z] 26)).alloc (.cells #[.int .u64 z, .int .u64 c] 22)).alloc (.cells #[.int .u64 y, .int .u64 a, .int .u64 d, .int .u64 r, .int .u64 s] 22)) (w.heap.size + 1) r s z from ((Three.at _ r s z _ (w.heap.size + 1) (by simp)).alloc _).alloc _)
      have F_es := Lib.hid (show ShL ((((w.alloc (.cells #[.int .u64 P, .int .u64 Q, .int .u64 G] 24)).alloc (.cells #[.int .u64 r, .int .u64 s, .int .u64 z] 26)).alloc (.cells #[.int .u64 z, .int .u64 c] 22)).alloc (.cells #[.int .u64 y, .int .u64 a, .int .u64 d, .int .u64 r, .int .u64 s] 22)) (some ⟨w.heap.size + 1 + 1, 0, none⟩) 2 2 [z, c] from (ShL.laid _ [z, c] _ _ (w.heap.size + 1 + 1) _ _ (by simp) rfl rfl).alloc _)
      have F_ns := Lib.hid (show ShL ((((w.alloc (.cells #[.int .u64 P, .int .u64 Q, .int .u64 G] 24)).alloc (.cells #[.int .u64 r, .int .u64 s, .int .u64 z] 26)).alloc (.cells #[.int .u64 z, .int .u64 c] 22)).alloc (.cells #[.int .u64 y, .int .u64 a, .int .u64 d, .int .u64 r, .int .u64 s] 22)) (some ⟨w.heap.size + 1 + 1 + 1, 0, none⟩) 5 5 [y, a, d, r, s] from ShL.laid _ [y, a, d, r, s] _ _ (w.heap.size + 1 + 1 + 1) _ _ (by simp) rfl rfl)
      have HBW := Lib.hid (show Below w.heap.size w ((((w.alloc (.cells #[.int .u64 P, .int .u64 Q, .int .u64 G] 24)).alloc (.cells #[.int .u64 r, .int .u64 s, .int .u64 z] 26)).alloc (.cells #[.int .u64 z, .int .u64 c] 22)).alloc (.cells #[.int .u64 y, .int .u64 a, .int .u64 d, .int .u64 r, .int .u64 s] 22)) from ((((Below.refl _ _).alloc (by simp <;> omega) _).alloc (by simp <;> omega) _).alloc (by simp <;> omega) _).alloc (by simp <;> omega) _)
      go_enter Tryd.func12, Tryd.ntmps12
      go_wp2_with fail
      refine (pcheck_any _ hP hQ hG F_es.out F_ns.out (by simp) (by simp) HR.out).mono ?_
      rintro e w1 ⟨rfl, hb1⟩
      replace F_g := Lib.hid (F_g.out.keep hb1)
      replace F_p := Lib.hid (F_p.out.keep hb1)
      replace HBW := Lib.hid (HBW.out.trans (hb1.mono HBW.out.size))
      clear hb1 F_es F_ns
      obtain ⟨x0, x1, x2, -⟩ := id F_g.out
      obtain ⟨x3, x4, x5, -⟩ := id F_p.out
      go_wp2_with fail
      clear x0 x1 x2 x3 x4 x5
      refine (peqn_any (v := true) _ HH.out hG gP hy yP hr rP UC.out UZ.out ⟨fun _ => HE1.out, fun _ => rfl⟩).mono ?_
      rintro e w2 ⟨rfl, hb2⟩
      replace F_g := Lib.hid (F_g.out.keep hb2)
      replace F_p := Lib.hid (F_p.out.keep hb2)
      replace HBW := Lib.hid (HBW.out.trans (hb2.mono HBW.out.size))
      clear hb2
      obtain ⟨x0, x1, x2, -⟩ := id F_g.out
      obtain ⟨x3, x4, x5, -⟩ := id F_p.out
      go_wp2_with fail
      clear x0 x1 x2 x3 x4 x5
      refine (peqn_any (v := v) _ HH.out ha aP hd dP hs sP UC.out UZ.out HE2.out).mono ?_
      rintro e w3 ⟨rfl, hb3⟩
      replace F_g := Lib.hid (F_g.out.keep hb3)
      replace F_p := Lib.hid (F_p.out.keep hb3)
      replace HBW := Lib.hid (HBW.out.trans (hb3.mono HBW.out.size))
      clear hb3
      obtain ⟨x0, x1, x2, -⟩ := id F_g.out
      obtain ⟨x3, x4, x5, -⟩ := id F_p.out
      go_wp2_with fail
      go_ret2
      exact ⟨rfl, HBW.out⟩
  · have hnc : e' ≠ 0 := by rw [hcc]; exact h
    have hn1 : (e' != 0) = true := by simpa using hnc
    have HR := Lib.hid hcc.symm
    clear hcc h hnc
    have F_g := Lib.hid (show Boxed ((((w.alloc (.cells #[.int .u64 P, .int .u64 Q, .int .u64 G] 24)).alloc (.cells #[.int .u64 r, .int .u64 s, .int .u64 z] 26)).alloc (.cells #[.int .u64 z, .int .u64 c] 22)).alloc (.cells #[.int .u64 y, .int .u64 a, .int .u64 d, .int .u64 r, .int .u64 s] 22)) (w.heap.size) P Q G from (((Boxed.at _ P Q G _ (w.heap.size) (by simp)).alloc _).alloc _).alloc _)
    have F_p := Lib.hid (show Three ((((w.alloc (.cells #[.int .u64 P, .int .u64 Q, .int .u64 G] 24)).alloc (.cells #[.int .u64 r, .int .u64 s, .int .u64 z] 26)).alloc (.cells #[.int .u64 z, .int .u64 c] 22)).alloc (.cells #[.int .u64 y, .int .u64 a, .int .u64 d, .int .u64 r, .int .u64 s] 22)) (w.heap.size + 1) r s z from ((Three.at _ r s z _ (w.heap.size + 1) (by simp)).alloc _).alloc _)
    have F_es := Lib.hid (show ShL ((((w.alloc (.cells #[.int .u64 P, .int .u64 Q, .int .u64 G] 24)).alloc (.cells #[.int .u64 r, .int .u64 s, .int .u64 z] 26)).alloc (.cells #[.int .u64 z, .int .u64 c] 22)).alloc (.cells #[.int .u64 y, .int .u64 a, .int .u64 d, .int .u64 r, .int .u64 s] 22)) (some ⟨w.heap.size + 1 + 1, 0, none⟩) 2 2 [z, c] from (ShL.laid _ [z, c] _ _ (w.heap.size + 1 + 1) _ _ (by simp) rfl rfl).alloc _)
    have F_ns := Lib.hid (show ShL ((((w.alloc (.cells #[.int .u64 P, .int .u64 Q, .int .u64 G] 24)).alloc (.cells #[.int .u64 r, .int .u64 s, .int .u64 z] 26)).alloc (.cells #[.int .u64 z, .int .u64 c] 22)).alloc (.cells #[.int .u64 y, .int .u64 a, .int .u64 d, .int .u64 r, .int .u64 s] 22)) (some ⟨w.heap.size + 1 + 1 + 1, 0, none⟩) 5 5 [y, a, d, r, s] from ShL.laid _ [y, a, d, r, s] _ _ (w.heap.size + 1 + 1 + 1) _ _ (by simp) rfl rfl)
    have HBW := Lib.hid (show Below w.heap.size w ((((w.alloc (.cells #[.int .u64 P, .int .u64 Q, .int .u64 G] 24)).alloc (.cells #[.int .u64 r, .int .u64 s, .int .u64 z] 26)).alloc (.cells #[.int .u64 z, .int .u64 c] 22)).alloc (.cells #[.int .u64 y, .int .u64 a, .int .u64 d, .int .u64 r, .int .u64 s] 22)) from ((((Below.refl _ _).alloc (by simp <;> omega) _).alloc (by simp <;> omega) _).alloc (by simp <;> omega) _).alloc (by simp <;> omega) _)
    go_enter Tryd.func12, Tryd.ntmps12
    go_wp2_with fail
    refine (pcheck_any _ hP hQ hG F_es.out F_ns.out (by simp) (by simp) HR.out).mono ?_
    rintro e w1 ⟨rfl, hb1⟩
    replace F_g := Lib.hid (F_g.out.keep hb1)
    replace F_p := Lib.hid (F_p.out.keep hb1)
    replace HBW := Lib.hid (HBW.out.trans (hb1.mono HBW.out.size))
    clear hb1 F_es F_ns
    obtain ⟨x0, x1, x2, -⟩ := id F_g.out
    obtain ⟨x3, x4, x5, -⟩ := id F_p.out
    go_wp2_with fail
    go_ret2
    exact ⟨rfl, HBW.out⟩
end Go.Proofs.YtmcpfinnhgbcpaaDoor
