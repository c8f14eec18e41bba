/- schnorr: keys, responses, extraction. -/
import Derived.Test.YtmcpfinnhgbcpaaDoorPrs
import Derived.Test.YtmcpfinnhgbcpaaDoorStage
namespace Go.Proofs.YtmcpfinnhgbcpaaDoor
open Go.RowKit Num
set_option linter.unusedSimpArgs false
set_option linter.unusedVariables false

/-- The error of a group and a secret key. -/
def keyS (P Q G x : Int) : Int := if askS P Q G [x] [] = 0 then (if x = 0 then 2 else 0) else askS P Q G [x] []
theorem keyS_zero {P Q G x : Int} (h : keyS P Q G x = 0) : Has P Q G ∧ x < Q ∧ x ≠ 0 := by
  unfold keyS at h
  by_cases ha : askS P Q G [x] [] = 0
  · rw [if_pos ha] at h
    by_cases hx : x = 0
    · rw [if_pos hx] at h; omega
    · exact ⟨(askS_zero ha).1, (askS_zero ha).2.1 x (by simp), hx⟩
  · rw [if_neg ha] at h; exact absurd h ha
theorem keyS_ok {P Q G x : Int} (hH : Has P Q G) (h : x < Q) (hx : x ≠ 0) : keyS P Q G x = 0 := by
  unfold keyS
  rw [if_pos (askS_ok hH (by simpa using h) (by simp)), if_neg hx]

set_option maxHeartbeats 4000000 in
theorem srespond_any {P Q G x k c v r : Int} (w : World) (hP : 0 ≤ P) (hQ : 0 ≤ Q) (hG : 0 ≤ G) (x0 : 0 ≤ x) (k0 : 0 ≤ k) (c0 : 0 ≤ c) (h : RetS (askS P Q G [x, k, c] []) ((k + c * x % Q) % Q) v r) :
    Calls Tryd.prog 33 #[.agg #[.int .u64 P, .int .u64 Q, .int .u64 G], .int .u64 x, .int .u64 k, .int .u64 c] w fun e w' => e = .returned (.tuple #[.int .u64 v, .int .i64 r]) ∧ Below w.heap.size w w' := by
  rcases h with ⟨h, hv, rfl⟩ | ⟨h, rfl, hc⟩
  · obtain ⟨hH, he, -⟩ := askS_zero h
    have xQ := he x (by simp)
    have kQ := he k (by simp)
    have cQ := he c (by simp)
    have HR := Lib.hid h
    obtain ⟨m, hm⟩ : ∃ m, c * x % Q = m := ⟨_, rfl⟩
    have HV := Lib.hid (show (k + m) % Q = v by rw [← hm]; exact hv.symm)
    have HM := Lib.hid hm
    have m0 : 0 ≤ m := by rw [← hm]; exact Int.emod_nonneg _ (by omega)
    have mQ : m < Q := by rw [← hm]; exact Int.emod_lt_of_pos _ (by omega)
    clear h hv he hm
    obtain ⟨p5, p3, hQ', pq, g2, gP⟩ := id hH
    have hP1 : 1 ≤ P := by omega
    have hGM : G < 2147483648 := by omega
    have q3 : Q < 1073741824 := by omega
    have HH := Lib.hid hH
    clear hH pq
    have F_g := Lib.hid (show Boxed ((w.alloc (.cells #[.int .u64 P, .int .u64 Q, .int .u64 G] 24)).alloc (.cells #[.int .u64 x, .int .u64 k, .int .u64 c] 22)) (w.heap.size) P Q G from (Boxed.at _ P Q G _ (w.heap.size) (by simp)).alloc _)
    have F_es := Lib.hid (show ShL ((w.alloc (.cells #[.int .u64 P, .int .u64 Q, .int .u64 G] 24)).alloc (.cells #[.int .u64 x, .int .u64 k, .int .u64 c] 22)) (some ⟨w.heap.size + 1, 0, none⟩) 3 3 [x, k, c] from ShL.laid _ [x, k, c] _ _ (w.heap.size + 1) _ _ (by simp) rfl rfl)
    have HBW := Lib.hid (show Below w.heap.size w ((w.alloc (.cells #[.int .u64 P, .int .u64 Q, .int .u64 G] 24)).alloc (.cells #[.int .u64 x, .int .u64 k, .int .u64 c] 22)) from ((Below.refl _ _).alloc (by simp <;> omega) _).alloc (by simp <;> omega) _)
    go_enter Tryd.func33, Tryd.ntmps33
    obtain ⟨x0a, x0b, x0c, -⟩ := id F_g.out
    go_wp2_with fail
    clear x0a x0b x0c
    refine (scheck_any _ hP hQ hG F_es.out (ShL.nil _) (by simp) (by simp) HR.out).mono ?_
    rintro e w1 ⟨rfl, hb1⟩
    replace F_g := Lib.hid (F_g.out.keep hb1)
    replace F_es := Lib.hid (F_es.out.keep hb1)
    replace HBW := Lib.hid (HBW.out.trans (hb1.mono HBW.out.size))
    clear hb1
    clear F_es
    obtain ⟨x0a, x0b, x0c, -⟩ := id F_g.out
    go_wp2_with fail
    clear x0a x0b x0c
    refine (mulExp_ok P Q G c x m _ HH.out c0 cQ x0 xQ HM.out).mono ?_
    rintro e w2 ⟨rfl, hb2⟩
    replace F_g := Lib.hid (F_g.out.keep hb2)
    replace HBW := Lib.hid (HBW.out.trans (hb2.mono HBW.out.size))
    clear hb2
    obtain ⟨x0a, x0b, x0c, -⟩ := id F_g.out
    go_wp2_with fail
    clear x0a x0b x0c
    refine (addExp_ok P Q G k m v _ HH.out k0 kQ m0 mQ HV.out).mono ?_
    rintro e w3 ⟨rfl, hb3⟩
    replace F_g := Lib.hid (F_g.out.keep hb3)
    replace HBW := Lib.hid (HBW.out.trans (hb3.mono HBW.out.size))
    clear hb3
    obtain ⟨x0a, x0b, x0c, -⟩ := id F_g.out
    go_wp2_with fail
    go_ret2
    exact ⟨rfl, HBW.out⟩
  · have hnc : r ≠ 0 := by rw [hc]; exact h
    have hn1 : (r != 0) = true := by simpa using hnc
    have HR := Lib.hid hc.symm
    clear hc h hnc
    have F_g := Lib.hid (show Boxed ((w.alloc (.cells #[.int .u64 P, .int .u64 Q, .int .u64 G] 24)).alloc (.cells #[.int .u64 x, .int .u64 k, .int .u64 c] 22)) (w.heap.size) P Q G from (Boxed.at _ P Q G _ (w.heap.size) (by simp)).alloc _)
    have F_es := Lib.hid (show ShL ((w.alloc (.cells #[.int .u64 P, .int .u64 Q, .int .u64 G] 24)).alloc (.cells #[.int .u64 x, .int .u64 k, .int .u64 c] 22)) (some ⟨w.heap.size + 1, 0, none⟩) 3 3 [x, k, c] from ShL.laid _ [x, k, c] _ _ (w.heap.size + 1) _ _ (by simp) rfl rfl)
    have HBW := Lib.hid (show Below w.heap.size w ((w.alloc (.cells #[.int .u64 P, .int .u64 Q, .int .u64 G] 24)).alloc (.cells #[.int .u64 x, .int .u64 k, .int .u64 c] 22)) from ((Below.refl _ _).alloc (by simp <;> omega) _).alloc (by simp <;> omega) _)
    go_enter Tryd.func33, Tryd.ntmps33
    obtain ⟨x0a, x0b, x0c, -⟩ := id F_g.out
    go_wp2_with fail
    clear x0a x0b x0c
    refine (scheck_any _ hP hQ hG F_es.out (ShL.nil _) (by simp) (by simp) HR.out).mono ?_
    rintro e w1 ⟨rfl, hb1⟩
    replace F_g := Lib.hid (F_g.out.keep hb1)
    replace F_es := Lib.hid (F_es.out.keep hb1)
    replace HBW := Lib.hid (HBW.out.trans (hb1.mono HBW.out.size))
    clear hb1
    clear F_es
    obtain ⟨x0a, x0b, x0c, -⟩ := id F_g.out
    go_wp2_with fail
    go_ret2
    exact ⟨rfl, HBW.out⟩

set_option maxHeartbeats 2000000 in
theorem rtold_any {P Q G x k c m v : Int} (w : World) (hH : Has P Q G) (x0 : 0 ≤ x) (xQ : x < Q) (k0 : 0 ≤ k) (kQ : k < Q) (c0 : 0 ≤ c) (cQ : c < Q) (hm : c * x % Q = m) (hv : (k + m) % Q = v) :
    Calls Tryd.prog 68 #[.agg #[.int .u64 P, .int .u64 Q, .int .u64 G], .int .u64 x, .int .u64 k, .int .u64 c] w fun e w' => e = .returned (.int .u64 v) ∧ Below w.heap.size w w' := by
  have m0 : 0 ≤ m := by rw [← hm]; exact Int.emod_nonneg _ (by omega)
  have mQ : m < Q := by rw [← hm]; exact Int.emod_lt_of_pos _ (by omega)
  have HM := Lib.hid hm
  have HV := Lib.hid hv
  have HH := Lib.hid hH
  clear hm hv hH
  have F_g := Lib.hid (show Boxed (w.alloc (.cells #[.int .u64 P, .int .u64 Q, .int .u64 G] 24)) (w.heap.size) P Q G from Boxed.at _ P Q G _ (w.heap.size) (by simp))
  have HBW := Lib.hid (show Below w.heap.size w (w.alloc (.cells #[.int .u64 P, .int .u64 Q, .int .u64 G] 24)) from (Below.refl _ _).alloc (by simp <;> omega) _)
  go_enter Tryd.func68, Tryd.ntmps68
  obtain ⟨x0a, x0b, x0c, -⟩ := id F_g.out
  go_wp2_with fail
  clear x0a x0b x0c
  replace F_g := Lib.hid F_g.out.drew
  replace HBW := Lib.hid HBW.out.drew
  have hS := F_g.out.s
  refine wp_region_stage 6 (fun w' => SBox w' w.heap.size P Q G) (by kernel_rfl) ?_
  refine wpAnyB_take (i := 0) (some 9) (Op.load 24 (Operand.tmp 4)) 24 (v := ?_) ⟨_, rfl, rfl, rfl, rfl, rfl⟩ (by kernel_rfl) (by kernel_rfl) (by kernel_rfl) [6] (by kernel_rfl) (fun _ _ _ h => h) hS (fun w' hSw => ?_) ?_
  rotate_left
  · obtain ⟨s0, s1, s2⟩ := hSw
    unfold bareOp
    go_simp
    try with_reducible rfl
  simp only [Act.put, List.setIfInBounds_toArray, List.set_cons_zero, List.set_cons_succ]
  refine wpAnyB_takeP (i := 1) (some 10) (Op.move (Operand.tmp 2)) 22 (v := ?_) ⟨_, rfl, rfl, rfl, rfl, rfl⟩ (by kernel_rfl) (by kernel_rfl) (by kernel_rfl) (by kernel_rfl) (fun _ _ _ h => h) (fun _ => hS) (fun w' => ?_) ?_
  rotate_left
  · unfold bareOp
    go_simp
    try with_reducible rfl
  simp only [Act.put, List.setIfInBounds_toArray, List.set_cons_zero, List.set_cons_succ]
  refine wpAnyB_take (i := 2) (some 11) (Op.load 24 (Operand.tmp 4)) 24 (v := ?_) ⟨_, rfl, rfl, rfl, rfl, rfl⟩ (by kernel_rfl) (by kernel_rfl) (by kernel_rfl) [5, 6] (by kernel_rfl) (fun _ _ _ h => h) hS (fun w' hSw => ?_) ?_
  rotate_left
  · obtain ⟨s0, s1, s2⟩ := hSw
    unfold bareOp
    go_simp
    try with_reducible rfl
  simp only [Act.put, List.setIfInBounds_toArray, List.set_cons_zero, List.set_cons_succ]
  refine wpAnyB_takeP (i := 3) (some 12) (Op.move (Operand.tmp 3)) 22 (v := ?_) ⟨_, rfl, rfl, rfl, rfl, rfl⟩ (by kernel_rfl) (by kernel_rfl) (by kernel_rfl) (by kernel_rfl) (fun _ _ _ h => h) (fun _ => hS) (fun w' => ?_) ?_
  rotate_left
  · unfold bareOp
    go_simp
    try with_reducible rfl
  simp only [Act.put, List.setIfInBounds_toArray, List.set_cons_zero, List.set_cons_succ]
  refine wpAnyB_takeP (i := 4) (some 13) (Op.move (Operand.tmp 1)) 22 (v := ?_) ⟨_, rfl, rfl, rfl, rfl, rfl⟩ (by kernel_rfl) (by kernel_rfl) (by kernel_rfl) (by kernel_rfl) (fun _ _ _ h => h) (fun _ => hS) (fun w' => ?_) ?_
  rotate_left
  · unfold bareOp
    go_simp
    try with_reducible rfl
  simp only [Act.put, List.setIfInBounds_toArray, List.set_cons_zero, List.set_cons_succ]
  refine wpAnyB_only (i := 5) (some 14) (Op.call { callee := Callee.value (Operand.func 83), args := #[Operand.tmp 11, Operand.tmp 12, Operand.tmp 13], argTypes := #[24, 22, 22] }) 22 ⟨_, rfl, rfl, rfl, rfl, rfl⟩ (by kernel_rfl) (fun K hK => ?_)
  unfold bareOp
  go_wp2_with (go_at_call 83; refine (rProduct_gen _ HH.out c0 cQ x0 xQ HM.out).mono ?_; rintro e w1 ⟨rfl, hb1⟩)
  replace F_g := Lib.hid (F_g.out.keep hb1)
  replace HBW := Lib.hid (HBW.out.trans (hb1.mono HBW.out.size))
  replace hS := F_g.out.s
  clear hb1
  refine hK.out _ _ (fun _ => hS) ?_
  clear hK K
  try simp only [Act.put, List.setIfInBounds_toArray, List.set_cons_zero, List.set_cons_succ]
  refine wpAnyB_only (i := 6) (some 15) (Op.call { callee := Callee.value (Operand.func 78), args := #[Operand.tmp 9, Operand.tmp 10, Operand.tmp 14], argTypes := #[24, 22, 22] }) 22 ⟨_, rfl, rfl, rfl, rfl, rfl⟩ (by kernel_rfl) (fun K hK => ?_)
  unfold bareOp
  go_wp2_with (go_at_call 78; refine (rSum_gen _ HH.out k0 kQ m0 mQ HV.out).mono ?_; rintro e w2 ⟨rfl, hb2⟩)
  replace F_g := Lib.hid (F_g.out.keep hb2)
  replace HBW := Lib.hid (HBW.out.trans (hb2.mono HBW.out.size))
  replace hS := F_g.out.s
  clear hb2
  refine hK.out _ _ (fun h => absurd (h.symm.trans (by kernel_rfl : _ = true)) (by decide)) ?_
  clear hK K
  try simp only [Act.put, List.setIfInBounds_toArray, List.set_cons_zero, List.set_cons_succ]
  refine wpAnyB_takeP (i := 7) (some 8) (Op.assign (Operand.tmp 15)) 22 (v := ?_) ⟨_, rfl, rfl, rfl, rfl, rfl⟩ (by kernel_rfl) (by kernel_rfl) (by kernel_rfl) (by kernel_rfl) (fun _ _ _ h => h) (fun h => absurd (h.symm.trans (by kernel_rfl : _ = true)) (by decide)) (fun w' => ?_) ?_
  rotate_left
  · unfold bareOp
    go_simp
    try with_reducible rfl
  simp only [Act.put, List.setIfInBounds_toArray, List.set_cons_zero, List.set_cons_succ]
  refine wpAnyB_done (by kernel_rfl) ?_ _
  obtain ⟨x0a, x0b, x0c, -⟩ := id F_g.out
  go_wp2_with fail
  go_ret
  exact ⟨rfl, HBW.out⟩
set_option maxHeartbeats 4000000 in
theorem reven_any {P Q G base y r c s : Int} {v : Bool} (w : World) (hP1 : 1 ≤ P) (PM : P < 2147483648) (b0 : 0 ≤ base) (bP : base < P) (y0 : 0 ≤ y) (yP : y < P) (r0 : 0 ≤ r) (rP : r < P) (uc : U64 c) (us : U64 s) (hv : v = true ↔ powm base s P = r * powm y c P % P) :
    Calls Tryd.prog 69 #[.agg #[.int .u64 P, .int .u64 Q, .int .u64 G], .int .u64 base, .int .u64 y, .int .u64 r, .int .u64 c, .int .u64 s] w fun e w' => e = .returned (.bool v) ∧ Below w.heap.size w w' := by
  obtain ⟨a, ha⟩ : ∃ a, powm base s P = a := ⟨_, rfl⟩
  obtain ⟨b, hb⟩ : ∃ b, powm y c P = b := ⟨_, rfl⟩
  have q0 : 0 ≤ b := by rw [← hb]; exact powm_nonneg (by omega)
  have qP : b < P := by rw [← hb]; exact powm_lt (by omega)
  obtain ⟨k1, k2⟩ := mul_bound r0 (by omega) q0 (by omega)
  obtain ⟨t, ht⟩ : ∃ t, r * b % P = t := ⟨_, rfl⟩
  have t0 : 0 ≤ t := by rw [← ht]; exact Int.emod_nonneg _ (by omega)
  have tP : t < P := by rw [← ht]; exact Int.emod_lt_of_pos _ (by omega)
  have k3 := wrap_u k1 (by omega)
  have k4 : (r * b).tmod P = t := (tmod_u k1).trans ht
  have k5 := wrap_u t0 (by omega)
  have k8 : ¬ P = 0 := by omega
  have HZ := Lib.hid (show (a == t) = v by rw [ha, hb, ht] at hv; rw [Bool.eq_iff_iff, hv]; simp)
  have HA := Lib.hid ha
  have HB := Lib.hid hb
  have UC := Lib.hid uc
  have US := Lib.hid us
  clear ha hb ht hv uc us
  have F_g := Lib.hid (show Boxed (w.alloc (.cells #[.int .u64 P, .int .u64 Q, .int .u64 G] 24)) (w.heap.size) P Q G from Boxed.at _ P Q G _ (w.heap.size) (by simp))
  have HBW := Lib.hid (show Below w.heap.size w (w.alloc (.cells #[.int .u64 P, .int .u64 Q, .int .u64 G] 24)) from (Below.refl _ _).alloc (by simp <;> omega) _)
  go_enter Tryd.func69, Tryd.ntmps69
  obtain ⟨x0a, x0b, x0c, -⟩ := id F_g.out
  go_wp2_with fail
  clear x0a x0b x0c
  replace F_g := Lib.hid F_g.out.drew
  replace HBW := Lib.hid HBW.out.drew
  have hS := F_g.out.s
  refine wp_region_stage 14 (fun w' => SBox w' w.heap.size P Q G) (by kernel_rfl) ?_
  refine wpAnyB_take (i := 0) (some 13) (Op.load 24 (Operand.tmp 6)) 24 (v := ?_) ⟨_, rfl, rfl, rfl, rfl, rfl⟩ (by kernel_rfl) (by kernel_rfl) (by kernel_rfl) [3, 8, 9, 12, 13, 14] (by kernel_rfl) (fun _ _ _ h => h) hS (fun w' hSw => ?_) ?_
  rotate_left
  · obtain ⟨s0, s1, s2⟩ := hSw
    unfold bareOp
    go_simp
    try with_reducible rfl
  simp only [Act.put, List.setIfInBounds_toArray, List.set_cons_zero, List.set_cons_succ]
  refine wpAnyB_takeP (i := 1) (some 14) (Op.move (Operand.tmp 1)) 22 (v := ?_) ⟨_, rfl, rfl, rfl, rfl, rfl⟩ (by kernel_rfl) (by kernel_rfl) (by kernel_rfl) (by kernel_rfl) (fun _ _ _ h => h) (fun _ => hS) (fun w' => ?_) ?_
  rotate_left
  · unfold bareOp
    go_simp
    try with_reducible rfl
  simp only [Act.put, List.setIfInBounds_toArray, List.set_cons_zero, List.set_cons_succ]
  refine wpAnyB_takeP (i := 2) (some 15) (Op.move (Operand.tmp 5)) 22 (v := ?_) ⟨_, rfl, rfl, rfl, rfl, rfl⟩ (by kernel_rfl) (by kernel_rfl) (by kernel_rfl) (by kernel_rfl) (fun _ _ _ h => h) (fun _ => hS) (fun w' => ?_) ?_
  rotate_left
  · unfold bareOp
    go_simp
    try with_reducible rfl
  simp only [Act.put, List.setIfInBounds_toArray, List.set_cons_zero, List.set_cons_succ]
  refine wpAnyB_takeP (i := 4) (some 17) (Op.move (Operand.tmp 3)) 22 (v := ?_) ⟨_, rfl, rfl, rfl, rfl, rfl⟩ (by kernel_rfl) (by kernel_rfl) (by kernel_rfl) (by kernel_rfl) (fun _ _ _ h => h) (fun _ => hS) (fun w' => ?_) ?_
  rotate_left
  · unfold bareOp
    go_simp
    try with_reducible rfl
  simp only [Act.put, List.setIfInBounds_toArray, List.set_cons_zero, List.set_cons_succ]
  refine wpAnyB_take (i := 5) (some 18) (Op.load 24 (Operand.tmp 6)) 24 (v := ?_) ⟨_, rfl, rfl, rfl, rfl, rfl⟩ (by kernel_rfl) (by kernel_rfl) (by kernel_rfl) [8, 9, 12, 13, 14] (by kernel_rfl) (fun _ _ _ h => h) hS (fun w' hSw => ?_) ?_
  rotate_left
  · obtain ⟨s0, s1, s2⟩ := hSw
    unfold bareOp
    go_simp
    try with_reducible rfl
  simp only [Act.put, List.setIfInBounds_toArray, List.set_cons_zero, List.set_cons_succ]
  refine wpAnyB_takeP (i := 6) (some 19) (Op.move (Operand.tmp 2)) 22 (v := ?_) ⟨_, rfl, rfl, rfl, rfl, rfl⟩ (by kernel_rfl) (by kernel_rfl) (by kernel_rfl) (by kernel_rfl) (fun _ _ _ h => h) (fun _ => hS) (fun w' => ?_) ?_
  rotate_left
  · unfold bareOp
    go_simp
    try with_reducible rfl
  simp only [Act.put, List.setIfInBounds_toArray, List.set_cons_zero, List.set_cons_succ]
  refine wpAnyB_takeP (i := 7) (some 20) (Op.move (Operand.tmp 4)) 22 (v := ?_) ⟨_, rfl, rfl, rfl, rfl, rfl⟩ (by kernel_rfl) (by kernel_rfl) (by kernel_rfl) (by kernel_rfl) (fun _ _ _ h => h) (fun _ => hS) (fun w' => ?_) ?_
  rotate_left
  · unfold bareOp
    go_simp
    try with_reducible rfl
  simp only [Act.put, List.setIfInBounds_toArray, List.set_cons_zero, List.set_cons_succ]
  refine wpAnyB_takeP (i := 10) (some 23) (Op.fieldAddr 24 (Operand.tmp 6) 0) 0 (v := ?_) ⟨_, rfl, rfl, rfl, rfl, rfl⟩ (by kernel_rfl) (by kernel_rfl) (by kernel_rfl) (by kernel_rfl) (fun _ _ _ h => h) (fun _ => hS) (fun w' => ?_) ?_
  rotate_left
  · unfold bareOp
    go_simp
    try with_reducible rfl
  simp only [Act.put, List.setIfInBounds_toArray, List.set_cons_zero, List.set_cons_succ]
  refine wpAnyB_take (i := 11) (some 24) (Op.load 22 (Operand.tmp 23)) 22 (v := ?_) ⟨_, rfl, rfl, rfl, rfl, rfl⟩ (by kernel_rfl) (by kernel_rfl) (by kernel_rfl) [12, 13, 14] (by kernel_rfl) (fun _ _ _ h => h) hS (fun w' hSw => ?_) ?_
  rotate_left
  · obtain ⟨s0, s1, s2⟩ := hSw
    unfold bareOp
    go_simp
    try with_reducible rfl
  simp only [Act.put, List.setIfInBounds_toArray, List.set_cons_zero, List.set_cons_succ]
  refine wpAnyB_only (i := 3) (some 16) (Op.call { callee := Callee.value (Operand.func 66), args := #[Operand.tmp 13, Operand.tmp 14, Operand.tmp 15], argTypes := #[24, 22, 22] }) 22 ⟨_, rfl, rfl, rfl, rfl, rfl⟩ (by kernel_rfl) (fun K hK => ?_)
  unfold bareOp
  go_wp2_with (go_at_call 66; refine (r31Power_any _ hP1 PM b0 (by omega) US.out HA.out).mono ?_; rintro e w1 ⟨rfl, hb1⟩)
  replace F_g := Lib.hid (F_g.out.keep hb1)
  replace HBW := Lib.hid (HBW.out.trans (hb1.mono HBW.out.size))
  replace hS := F_g.out.s
  clear hb1
  refine hK.out _ _ (fun _ => hS) ?_
  clear hK K
  try simp only [Act.put, List.setIfInBounds_toArray, List.set_cons_zero, List.set_cons_succ]
  refine wpAnyB_only (i := 8) (some 21) (Op.call { callee := Callee.value (Operand.func 66), args := #[Operand.tmp 18, Operand.tmp 19, Operand.tmp 20], argTypes := #[24, 22, 22] }) 22 ⟨_, rfl, rfl, rfl, rfl, rfl⟩ (by kernel_rfl) (fun K hK => ?_)
  unfold bareOp
  go_wp2_with (go_at_call 66; refine (r31Power_any _ hP1 PM y0 (by omega) UC.out HB.out).mono ?_; rintro e w2 ⟨rfl, hb2⟩)
  replace F_g := Lib.hid (F_g.out.keep hb2)
  replace HBW := Lib.hid (HBW.out.trans (hb2.mono HBW.out.size))
  replace hS := F_g.out.s
  clear hb2
  refine hK.out _ _ (fun _ => hS) ?_
  clear hK K
  try simp only [Act.put, List.setIfInBounds_toArray, List.set_cons_zero, List.set_cons_succ]
  refine wpAnyB_takeP (i := 9) (some 22) (Op.binOp BinOp.mul 22 (Operand.tmp 17) (Operand.tmp 21) 22) 22 (v := ?_) ⟨_, rfl, rfl, rfl, rfl, rfl⟩ (by kernel_rfl) (by kernel_rfl) (by kernel_rfl) (by kernel_rfl) (fun _ _ _ h => h) (fun _ => hS) (fun w' => ?_) ?_
  rotate_left
  · unfold bareOp
    go_simp
    try with_reducible rfl
  simp only [Act.put, List.setIfInBounds_toArray, List.set_cons_zero, List.set_cons_succ]
  refine wpAnyB_takeP (i := 12) (some 25) (Op.binOp BinOp.rem 22 (Operand.tmp 22) (Operand.tmp 24) 22) 22 (v := ?_) ⟨_, rfl, rfl, rfl, rfl, rfl⟩ (by kernel_rfl) (by kernel_rfl) (by kernel_rfl) (by kernel_rfl) (fun _ _ _ h => h) (fun _ => hS) (fun w' => ?_) ?_
  rotate_left
  · unfold bareOp
    go_simp
    try with_reducible rfl
  simp only [Act.put, List.setIfInBounds_toArray, List.set_cons_zero, List.set_cons_succ]
  refine wpAnyB_takeP (i := 13) (some 26) (Op.binOp BinOp.eql 22 (Operand.tmp 16) (Operand.tmp 25) 22) 4 (v := ?_) ⟨_, rfl, rfl, rfl, rfl, rfl⟩ (by kernel_rfl) (by kernel_rfl) (by kernel_rfl) (by kernel_rfl) (fun _ _ _ h => h) (fun _ => hS) (fun w' => ?_) ?_
  rotate_left
  · unfold bareOp
    go_simp
    try with_reducible rfl
  simp only [Act.put, List.setIfInBounds_toArray, List.set_cons_zero, List.set_cons_succ]
  refine wpAnyB_only (i := 14) (some 12) (Op.assign (Operand.tmp 26)) 4 ⟨_, rfl, rfl, rfl, rfl, rfl⟩ (by kernel_rfl) (fun K hK => ?_)
  unfold bareOp
  go_wp2_with fail
  refine hK.out _ _ (fun h => absurd (h.symm.trans (by kernel_rfl : _ = true)) (by decide)) ?_
  clear hK K
  try simp only [Act.put, List.setIfInBounds_toArray, List.set_cons_zero, List.set_cons_succ]
  refine wpAnyB_done (by kernel_rfl) ?_ _
  obtain ⟨x0a, x0b, x0c, -⟩ := id F_g.out
  go_wp2_with fail
  go_ret
  exact ⟨ret_bool HZ.out, HBW.out⟩
def ExtS (P Q G c s d t v e : Int) : Prop := (askS P Q G [c, s, d, t] [] = 0 ∧ ∃ ok u, InvS Q ((c - d) % Q) ok u ∧ ((ok = true ∧ (s - t) % Q * u % Q = v ∧ e = 0) ∨ (ok = false ∧ v = 0 ∧ e = 6))) ∨ (askS P Q G [c, s, d, t] [] ≠ 0 ∧ v = 0 ∧ e = askS P Q G [c, s, d, t] [])
theorem ExtS.exists (P Q G c s d t : Int) : ∃ v e, ExtS P Q G c s d t v e := by
  by_cases h : askS P Q G [c, s, d, t] [] = 0
  · obtain ⟨hH, -⟩ := askS_zero h
    obtain ⟨ok, u, hi⟩ := InvS.exists Q ((c - d) % Q) (by obtain ⟨h1, h2, h3, h4, -⟩ := hH; omega)
    cases ok
    · exact ⟨_, _, .inl ⟨h, _, _, hi, .inr ⟨rfl, rfl, rfl⟩⟩⟩
    · exact ⟨_, _, .inl ⟨h, _, _, hi, .inl ⟨rfl, rfl, rfl⟩⟩⟩
  · exact ⟨_, _, .inr ⟨h, rfl, rfl⟩⟩

end Go.Proofs.YtmcpfinnhgbcpaaDoor
