/- The reference's Plus, Encrypt, Valid, Add, Strip, Refresh, Decrypt. -/
import Derived.Test.YtffefhldfnfohaaRelA
namespace Go.Proofs.Ytffefhldfnfohaa
open Go.RowKit Num
set_option linter.unusedSimpArgs false
set_option linter.unusedVariables false

set_option maxHeartbeats 4000000 in
theorem rPlus_any {P Q G a b c d x y : Int} (w : World) (PM : P < 2147483648) (a0 : 0 ≤ a) (aP : a < P) (b0 : 0 ≤ b) (bP : b < P) (c0 : 0 ≤ c) (cP : c < P) (d0 : 0 ≤ d) (dP : d < P) (hx : a * c % P = x) (hy : b * d % P = y) :
    Calls Try.prog 39 #[.agg #[.int .u64 P, .int .u64 Q, .int .u64 G], .agg #[.int .u64 a, .int .u64 b], .agg #[.int .u64 c, .int .u64 d]] w fun e w' => e = .returned (.agg #[.int .u64 x, .int .u64 y]) ∧ Below w.heap.size w w' := by
  obtain ⟨k1, k2⟩ := mul_bound a0 (by omega) c0 (by omega)
  obtain ⟨l1, l2⟩ := mul_bound b0 (by omega) d0 (by omega)
  have k3 := wrap_u k1 (by omega)
  have l3 := wrap_u l1 (by omega)
  have k4 : (a * c).tmod P = x := (tmod_u k1).trans hx
  have l4 : (b * d).tmod P = y := (tmod_u l1).trans hy
  have k5 : 0 ≤ x := hx ▸ Int.emod_nonneg _ (by omega)
  have k6 : x < P := hx ▸ Int.emod_lt_of_pos _ (by omega)
  have l5 : 0 ≤ y := hy ▸ Int.emod_nonneg _ (by omega)
  have l6 : y < P := hy ▸ Int.emod_lt_of_pos _ (by omega)
  have k7 := wrap_u k5 (by omega)
  have l7 := wrap_u l5 (by omega)
  have k8 : ¬ P = 0 := by omega
  clear hx hy
  have F_g := Lib.hid (show Boxed ((((w.alloc (.cells #[.int .u64 P, .int .u64 Q, .int .u64 G] 24)).alloc (.cells #[.int .u64 a, .int .u64 b] 26)).alloc (.cells #[.int .u64 c, .int .u64 d] 26)).alloc (.cells #[.int .u64 0, .int .u64 0] 26)) (w.heap.size) P Q G from (((Boxed.at _ P Q G _ (w.heap.size) (by simp)).alloc _).alloc _).alloc _)
  have F_u := Lib.hid (show Pair ((((w.alloc (.cells #[.int .u64 P, .int .u64 Q, .int .u64 G] 24)).alloc (.cells #[.int .u64 a, .int .u64 b] 26)).alloc (.cells #[.int .u64 c, .int .u64 d] 26)).alloc (.cells #[.int .u64 0, .int .u64 0] 26)) (w.heap.size + 1) a b from ((Pair.at _ a b _ (w.heap.size + 1) (by simp)).alloc _).alloc _)
  have F_v := Lib.hid (show Pair ((((w.alloc (.cells #[.int .u64 P, .int .u64 Q, .int .u64 G] 24)).alloc (.cells #[.int .u64 a, .int .u64 b] 26)).alloc (.cells #[.int .u64 c, .int .u64 d] 26)).alloc (.cells #[.int .u64 0, .int .u64 0] 26)) (w.heap.size + 1 + 1) c d from (Pair.at _ c d _ (w.heap.size + 1 + 1) (by simp)).alloc _)
  have F_r := Lib.hid (show Pair ((((w.alloc (.cells #[.int .u64 P, .int .u64 Q, .int .u64 G] 24)).alloc (.cells #[.int .u64 a, .int .u64 b] 26)).alloc (.cells #[.int .u64 c, .int .u64 d] 26)).alloc (.cells #[.int .u64 0, .int .u64 0] 26)) (w.heap.size + 1 + 1 + 1) 0 0 from Pair.at _ 0 0 _ (w.heap.size + 1 + 1 + 1) (by simp))
  have HBW := Lib.hid (show Below w.heap.size w ((((w.alloc (.cells #[.int .u64 P, .int .u64 Q, .int .u64 G] 24)).alloc (.cells #[.int .u64 a, .int .u64 b] 26)).alloc (.cells #[.int .u64 c, .int .u64 d] 26)).alloc (.cells #[.int .u64 0, .int .u64 0] 26)) from ((((Below.refl _ _).alloc (by simp <;> omega) _).alloc (by simp <;> omega) _).alloc (by simp <;> omega) _).alloc (by simp <;> omega) _)
  go_enter Try.func39, Try.ntmps39
  go_wp2_with fail
  replace F_g := Lib.hid F_g.out.drew
  replace F_u := Lib.hid F_u.out.drew
  replace F_v := Lib.hid F_v.out.drew
  replace F_r := Lib.hid F_r.out.drew
  replace HBW := Lib.hid HBW.out.drew
  have hS := And.intro F_g.out.s (And.intro F_u.out.s F_v.out.s)
  obtain ⟨za, zb, zc, zd, -⟩ := id F_r.out
  refine wp_region_stage 17 (fun w' => SBox w' w.heap.size P Q G ∧ SPair w' (w.heap.size + 1) a b ∧ SPair w' (w.heap.size + 1 + 1) c d) (by kernel_rfl) ?_
  refine wpAnyB_takeP (i := 0) (some 7) (Op.fieldAddr 26 (Operand.tmp 4) 0) 0 (v := ?_) ⟨_, rfl, rfl, rfl, rfl, rfl⟩ (by kernel_rfl) (by kernel_rfl) (by kernel_rfl) (by kernel_rfl) (fun _ _ _ h => h) (fun _ => hS) (fun w' => ?_) ?_
  rotate_left
  · unfold bareOp
    go_simp
    try with_reducible rfl
  simp only [Act.put, List.setIfInBounds_toArray, List.set_cons_zero, List.set_cons_succ]
  refine wpAnyB_take (i := 1) (some 8) (Op.load 22 (Operand.tmp 7)) 22 (v := ?_) ⟨_, rfl, rfl, rfl, rfl, rfl⟩ (by kernel_rfl) (by kernel_rfl) (by kernel_rfl) [4, 7, 16, 17] (by kernel_rfl) (fun _ _ _ h => h) hS (fun w' hSw => ?_) ?_
  rotate_left
  · obtain ⟨⟨s0, s1, s2⟩, ⟨s3, s4⟩, ⟨s5, s6⟩⟩ := hSw
    unfold bareOp
    go_simp
    try with_reducible rfl
  simp only [Act.put, List.setIfInBounds_toArray, List.set_cons_zero, List.set_cons_succ]
  refine wpAnyB_takeP (i := 2) (some 9) (Op.fieldAddr 26 (Operand.tmp 5) 0) 0 (v := ?_) ⟨_, rfl, rfl, rfl, rfl, rfl⟩ (by kernel_rfl) (by kernel_rfl) (by kernel_rfl) (by kernel_rfl) (fun _ _ _ h => h) (fun _ => hS) (fun w' => ?_) ?_
  rotate_left
  · unfold bareOp
    go_simp
    try with_reducible rfl
  simp only [Act.put, List.setIfInBounds_toArray, List.set_cons_zero, List.set_cons_succ]
  refine wpAnyB_take (i := 3) (some 10) (Op.load 22 (Operand.tmp 9)) 22 (v := ?_) ⟨_, rfl, rfl, rfl, rfl, rfl⟩ (by kernel_rfl) (by kernel_rfl) (by kernel_rfl) [4, 7, 16, 17] (by kernel_rfl) (fun _ _ _ h => h) hS (fun w' hSw => ?_) ?_
  rotate_left
  · obtain ⟨⟨s0, s1, s2⟩, ⟨s3, s4⟩, ⟨s5, s6⟩⟩ := hSw
    unfold bareOp
    go_simp
    try with_reducible rfl
  simp only [Act.put, List.setIfInBounds_toArray, List.set_cons_zero, List.set_cons_succ]
  refine wpAnyB_takeP (i := 4) (some 11) (Op.binOp BinOp.mul 22 (Operand.tmp 8) (Operand.tmp 10) 22) 22 (v := ?_) ⟨_, rfl, rfl, rfl, rfl, rfl⟩ (by kernel_rfl) (by kernel_rfl) (by kernel_rfl) (by kernel_rfl) (fun _ _ _ h => h) (fun _ => hS) (fun w' => ?_) ?_
  rotate_left
  · unfold bareOp
    go_simp
    try with_reducible rfl
  simp only [Act.put, List.setIfInBounds_toArray, List.set_cons_zero, List.set_cons_succ]
  refine wpAnyB_takeP (i := 5) (some 12) (Op.fieldAddr 24 (Operand.tmp 3) 0) 0 (v := ?_) ⟨_, rfl, rfl, rfl, rfl, rfl⟩ (by kernel_rfl) (by kernel_rfl) (by kernel_rfl) (by kernel_rfl) (fun _ _ _ h => h) (fun _ => hS) (fun w' => ?_) ?_
  rotate_left
  · unfold bareOp
    go_simp
    try with_reducible rfl
  simp only [Act.put, List.setIfInBounds_toArray, List.set_cons_zero, List.set_cons_succ]
  refine wpAnyB_take (i := 6) (some 13) (Op.load 22 (Operand.tmp 12)) 22 (v := ?_) ⟨_, rfl, rfl, rfl, rfl, rfl⟩ (by kernel_rfl) (by kernel_rfl) (by kernel_rfl) [7, 16, 17] (by kernel_rfl) (fun _ _ _ h => h) hS (fun w' hSw => ?_) ?_
  rotate_left
  · obtain ⟨⟨s0, s1, s2⟩, ⟨s3, s4⟩, ⟨s5, s6⟩⟩ := hSw
    unfold bareOp
    go_simp
    try with_reducible rfl
  simp only [Act.put, List.setIfInBounds_toArray, List.set_cons_zero, List.set_cons_succ]
  refine wpAnyB_takeP (i := 7) (some 14) (Op.binOp BinOp.rem 22 (Operand.tmp 11) (Operand.tmp 13) 22) 22 (v := ?_) ⟨_, rfl, rfl, rfl, rfl, rfl⟩ (by kernel_rfl) (by kernel_rfl) (by kernel_rfl) (by kernel_rfl) (fun _ _ _ h => h) (fun _ => hS) (fun w' => ?_) ?_
  rotate_left
  · unfold bareOp
    go_simp
    try with_reducible rfl
  simp only [Act.put, List.setIfInBounds_toArray, List.set_cons_zero, List.set_cons_succ]
  refine wpAnyB_takeP (i := 8) (some 15) (Op.fieldAddr 26 (Operand.tmp 4) 1) 0 (v := ?_) ⟨_, rfl, rfl, rfl, rfl, rfl⟩ (by kernel_rfl) (by kernel_rfl) (by kernel_rfl) (by kernel_rfl) (fun _ _ _ h => h) (fun _ => hS) (fun w' => ?_) ?_
  rotate_left
  · unfold bareOp
    go_simp
    try with_reducible rfl
  simp only [Act.put, List.setIfInBounds_toArray, List.set_cons_zero, List.set_cons_succ]
  refine wpAnyB_take (i := 9) (some 16) (Op.load 22 (Operand.tmp 15)) 22 (v := ?_) ⟨_, rfl, rfl, rfl, rfl, rfl⟩ (by kernel_rfl) (by kernel_rfl) (by kernel_rfl) [12, 15, 16, 17] (by kernel_rfl) (fun _ _ _ h => h) hS (fun w' hSw => ?_) ?_
  rotate_left
  · obtain ⟨⟨s0, s1, s2⟩, ⟨s3, s4⟩, ⟨s5, s6⟩⟩ := hSw
    unfold bareOp
    go_simp
    try with_reducible rfl
  simp only [Act.put, List.setIfInBounds_toArray, List.set_cons_zero, List.set_cons_succ]
  refine wpAnyB_takeP (i := 10) (some 17) (Op.fieldAddr 26 (Operand.tmp 5) 1) 0 (v := ?_) ⟨_, rfl, rfl, rfl, rfl, rfl⟩ (by kernel_rfl) (by kernel_rfl) (by kernel_rfl) (by kernel_rfl) (fun _ _ _ h => h) (fun _ => hS) (fun w' => ?_) ?_
  rotate_left
  · unfold bareOp
    go_simp
    try with_reducible rfl
  simp only [Act.put, List.setIfInBounds_toArray, List.set_cons_zero, List.set_cons_succ]
  refine wpAnyB_take (i := 11) (some 18) (Op.load 22 (Operand.tmp 17)) 22 (v := ?_) ⟨_, rfl, rfl, rfl, rfl, rfl⟩ (by kernel_rfl) (by kernel_rfl) (by kernel_rfl) [12, 15, 16, 17] (by kernel_rfl) (fun _ _ _ h => h) hS (fun w' hSw => ?_) ?_
  rotate_left
  · obtain ⟨⟨s0, s1, s2⟩, ⟨s3, s4⟩, ⟨s5, s6⟩⟩ := hSw
    unfold bareOp
    go_simp
    try with_reducible rfl
  simp only [Act.put, List.setIfInBounds_toArray, List.set_cons_zero, List.set_cons_succ]
  refine wpAnyB_takeP (i := 12) (some 19) (Op.binOp BinOp.mul 22 (Operand.tmp 16) (Operand.tmp 18) 22) 22 (v := ?_) ⟨_, rfl, rfl, rfl, rfl, rfl⟩ (by kernel_rfl) (by kernel_rfl) (by kernel_rfl) (by kernel_rfl) (fun _ _ _ h => h) (fun _ => hS) (fun w' => ?_) ?_
  rotate_left
  · unfold bareOp
    go_simp
    try with_reducible rfl
  simp only [Act.put, List.setIfInBounds_toArray, List.set_cons_zero, List.set_cons_succ]
  refine wpAnyB_takeP (i := 13) (some 20) (Op.fieldAddr 24 (Operand.tmp 3) 0) 0 (v := ?_) ⟨_, rfl, rfl, rfl, rfl, rfl⟩ (by kernel_rfl) (by kernel_rfl) (by kernel_rfl) (by kernel_rfl) (fun _ _ _ h => h) (fun _ => hS) (fun w' => ?_) ?_
  rotate_left
  · unfold bareOp
    go_simp
    try with_reducible rfl
  simp only [Act.put, List.setIfInBounds_toArray, List.set_cons_zero, List.set_cons_succ]
  refine wpAnyB_take (i := 14) (some 21) (Op.load 22 (Operand.tmp 20)) 22 (v := ?_) ⟨_, rfl, rfl, rfl, rfl, rfl⟩ (by kernel_rfl) (by kernel_rfl) (by kernel_rfl) [15, 16, 17] (by kernel_rfl) (fun _ _ _ h => h) hS (fun w' hSw => ?_) ?_
  rotate_left
  · obtain ⟨⟨s0, s1, s2⟩, ⟨s3, s4⟩, ⟨s5, s6⟩⟩ := hSw
    unfold bareOp
    go_simp
    try with_reducible rfl
  simp only [Act.put, List.setIfInBounds_toArray, List.set_cons_zero, List.set_cons_succ]
  refine wpAnyB_takeP (i := 15) (some 22) (Op.binOp BinOp.rem 22 (Operand.tmp 19) (Operand.tmp 21) 22) 22 (v := ?_) ⟨_, rfl, rfl, rfl, rfl, rfl⟩ (by kernel_rfl) (by kernel_rfl) (by kernel_rfl) (by kernel_rfl) (fun _ _ _ h => h) (fun _ => hS) (fun w' => ?_) ?_
  rotate_left
  · unfold bareOp
    go_simp
    try with_reducible rfl
  simp only [Act.put, List.setIfInBounds_toArray, List.set_cons_zero, List.set_cons_succ]
  refine wpAnyB_takeP (i := 16) (some 23) (Op.build 26 #[(0, Operand.tmp 14), (1, Operand.tmp 22)]) 26 (v := ?_) ⟨_, rfl, rfl, rfl, rfl, rfl⟩ (by kernel_rfl) (by kernel_rfl) (by kernel_rfl) (by kernel_rfl) (fun _ _ _ h => h) (fun _ => hS) (fun w' => ?_) ?_
  rotate_left
  · unfold bareOp
    go_simp
    try with_reducible rfl
  simp only [Act.put, List.setIfInBounds_toArray, List.set_cons_zero, List.set_cons_succ]
  refine wpAnyB_only (i := 17) none (Op.store 26 (Operand.tmp 6) (Operand.tmp 23)) 0 ⟨_, rfl, rfl, rfl, rfl, rfl⟩ (by kernel_rfl) (fun K hK => ?_)
  unfold bareOp
  go_wp2_with fail
  refine hK.out _ _ (fun h => absurd (h.symm.trans (by kernel_rfl : _ = true)) (by decide)) ?_
  clear hK K
  try simp only [Act.put, List.setIfInBounds_toArray, List.set_cons_zero, List.set_cons_succ]
  refine wpAnyB_done (by kernel_rfl) ?_ _
  go_wp2_with fail
  exact bodyPost_ret (res_alone (b := w.heap.size + 1 + 1 + 1) (x := x) (y := y) rfl (by repeat (first | exact Pair.at _ x y _ _ (by simp) | apply Pair.drew)) _ rfl) rfl ⟨rfl, by repeat (first | exact Below.refl _ _ | apply Below.drew | (refine Below.alloc ?_ (by simp <;> omega) _))⟩

set_option maxHeartbeats 2000000 in
theorem rEncrypt_bad {P Q G y m x r : Int} (w : World) (hP : 0 ≤ P) (hQ : 0 ≤ Q) (hG : 0 ≤ G) (hr : askS P Q G [m, x] [y] = r) (hne : r ≠ 0) :
    Calls Try.prog 20 #[.agg #[.int .u64 P, .int .u64 Q, .int .u64 G], .int .u64 y, .int .u64 m, .int .u64 x] w fun e w' => e = .returned (.tuple #[.agg #[.int .u64 0, .int .u64 0], .int .i64 r]) ∧ Below w.heap.size w w' := by
  have HR := Lib.hid hr
  clear hr
  have hnb : (r != 0) = true := by simpa using hne
  have hnc : (r == 0) = false := by simpa using hne
  have F_g := Lib.hid (show Boxed ((((w.alloc (.cells #[.int .u64 P, .int .u64 Q, .int .u64 G] 24)).alloc (.cells #[.int .u64 0, .int .u64 0] 26)).alloc (.cells #[.int .u64 m, .int .u64 x] 22)).alloc (.cells #[.int .u64 y] 22)) (w.heap.size) P Q G from (((Boxed.at _ P Q G _ (w.heap.size) (by simp)).alloc _).alloc _).alloc _)
  have F_r := Lib.hid (show Pair ((((w.alloc (.cells #[.int .u64 P, .int .u64 Q, .int .u64 G] 24)).alloc (.cells #[.int .u64 0, .int .u64 0] 26)).alloc (.cells #[.int .u64 m, .int .u64 x] 22)).alloc (.cells #[.int .u64 y] 22)) (w.heap.size + 1) 0 0 from ((Pair.at _ 0 0 _ (w.heap.size + 1) (by simp)).alloc _).alloc _)
  have F_es := Lib.hid (show ShL ((((w.alloc (.cells #[.int .u64 P, .int .u64 Q, .int .u64 G] 24)).alloc (.cells #[.int .u64 0, .int .u64 0] 26)).alloc (.cells #[.int .u64 m, .int .u64 x] 22)).alloc (.cells #[.int .u64 y] 22)) (some ⟨w.heap.size + 1 + 1, 0, none⟩) 2 2 [m, x] from (ShL.laid _ [m, x] _ _ (w.heap.size + 1 + 1) _ _ (by simp) rfl rfl).alloc _)
  have F_ns := Lib.hid (show ShL ((((w.alloc (.cells #[.int .u64 P, .int .u64 Q, .int .u64 G] 24)).alloc (.cells #[.int .u64 0, .int .u64 0] 26)).alloc (.cells #[.int .u64 m, .int .u64 x] 22)).alloc (.cells #[.int .u64 y] 22)) (some ⟨w.heap.size + 1 + 1 + 1, 0, none⟩) 1 1 [y] from ShL.laid _ [y] _ _ (w.heap.size + 1 + 1 + 1) _ _ (by simp) rfl rfl)
  have HBW := Lib.hid (show Below w.heap.size w ((((w.alloc (.cells #[.int .u64 P, .int .u64 Q, .int .u64 G] 24)).alloc (.cells #[.int .u64 0, .int .u64 0] 26)).alloc (.cells #[.int .u64 m, .int .u64 x] 22)).alloc (.cells #[.int .u64 y] 22)) from ((((Below.refl _ _).alloc (by simp <;> omega) _).alloc (by simp <;> omega) _).alloc (by simp <;> omega) _).alloc (by simp <;> omega) _)
  go_enter Try.func20, Try.ntmps20
  obtain ⟨x0a, x0b, x0c, -⟩ := id F_g.out
  obtain ⟨x1a, x1b, x1c, x1d, -⟩ := id F_r.out
  go_wp2_with fail
  clear x0a x0b x0c x1a x1b x1c x1d
  refine (rAsked_any _ hP hQ hG F_es.out F_ns.out (by simp) (by simp) HR.out).mono ?_
  rintro e w1 ⟨rfl, hb1⟩
  replace F_g := Lib.hid (F_g.out.keep hb1)
  replace F_r := Lib.hid (F_r.out.keep hb1)
  replace F_es := Lib.hid (F_es.out.keep hb1)
  replace F_ns := Lib.hid (F_ns.out.keep hb1)
  replace HBW := Lib.hid (HBW.out.trans (hb1.mono HBW.out.size))
  clear hb1
  clear F_es
  clear F_ns
  obtain ⟨x0a, x0b, x0c, -⟩ := id F_g.out
  obtain ⟨x1a, x1b, x1c, x1d, -⟩ := id F_r.out
  go_wp2_with fail
  exact bodyPost_ret (res_pair rfl (F_r.out.stored 0 0) _ rfl rfl) rfl ⟨rfl, (HBW.out.setCell (by simp <;> omega) _).setCell (by simp <;> omega) _⟩

set_option maxHeartbeats 4000000 in
theorem rEncrypt_ok {P Q G y m x a b : Int} (w : World) (hH : Has P Q G) (y0 : 0 ≤ y) (yP : y < P) (m0 : 0 ≤ m) (mQ : m < Q) (x0 : 0 ≤ x) (xQ : x < Q) (ha : powm G x P = a) (hb : powm G m P * powm y x P % P = b) :
    Calls Try.prog 20 #[.agg #[.int .u64 P, .int .u64 Q, .int .u64 G], .int .u64 y, .int .u64 m, .int .u64 x] w fun e w' => e = .returned (.tuple #[.agg #[.int .u64 a, .int .u64 b], .int .i64 0]) ∧ Below w.heap.size w w' := by
  have PM : P < 2147483648 := hH.2.1
  have HR := Lib.hid (askS_ok (es := [m, x]) (ns := [y]) hH (by simp <;> omega) (by simp <;> omega))
  have hP : 0 ≤ P := by have := hH.1; omega
  have hP1 : 1 < P := by have := hH.1; omega
  have hQ : 0 ≤ Q := hH.2.2.1
  have hG : 0 ≤ G := by have := hH.2.2.2.2.1; omega
  have hGP : G < P := hH.2.2.2.2.2
  have hQm : Q < 2147483648 := by have h1 := hH.2.2.2.1; have h2 := hH.2.1; omega
  have HH := Lib.hid hH
  clear hH
  have HA := Lib.hid ha
  have HB := Lib.hid hb
  clear ha hb
  have F_g := Lib.hid (show Boxed ((((w.alloc (.cells #[.int .u64 P, .int .u64 Q, .int .u64 G] 24)).alloc (.cells #[.int .u64 0, .int .u64 0] 26)).alloc (.cells #[.int .u64 m, .int .u64 x] 22)).alloc (.cells #[.int .u64 y] 22)) (w.heap.size) P Q G from (((Boxed.at _ P Q G _ (w.heap.size) (by simp)).alloc _).alloc _).alloc _)
  have F_r := Lib.hid (show Pair ((((w.alloc (.cells #[.int .u64 P, .int .u64 Q, .int .u64 G] 24)).alloc (.cells #[.int .u64 0, .int .u64 0] 26)).alloc (.cells #[.int .u64 m, .int .u64 x] 22)).alloc (.cells #[.int .u64 y] 22)) (w.heap.size + 1) 0 0 from ((Pair.at _ 0 0 _ (w.heap.size + 1) (by simp)).alloc _).alloc _)
  have F_es := Lib.hid (show ShL ((((w.alloc (.cells #[.int .u64 P, .int .u64 Q, .int .u64 G] 24)).alloc (.cells #[.int .u64 0, .int .u64 0] 26)).alloc (.cells #[.int .u64 m, .int .u64 x] 22)).alloc (.cells #[.int .u64 y] 22)) (some ⟨w.heap.size + 1 + 1, 0, none⟩) 2 2 [m, x] from (ShL.laid _ [m, x] _ _ (w.heap.size + 1 + 1) _ _ (by simp) rfl rfl).alloc _)
  have F_ns := Lib.hid (show ShL ((((w.alloc (.cells #[.int .u64 P, .int .u64 Q, .int .u64 G] 24)).alloc (.cells #[.int .u64 0, .int .u64 0] 26)).alloc (.cells #[.int .u64 m, .int .u64 x] 22)).alloc (.cells #[.int .u64 y] 22)) (some ⟨w.heap.size + 1 + 1 + 1, 0, none⟩) 1 1 [y] from ShL.laid _ [y] _ _ (w.heap.size + 1 + 1 + 1) _ _ (by simp) rfl rfl)
  have HBW := Lib.hid (show Below w.heap.size w ((((w.alloc (.cells #[.int .u64 P, .int .u64 Q, .int .u64 G] 24)).alloc (.cells #[.int .u64 0, .int .u64 0] 26)).alloc (.cells #[.int .u64 m, .int .u64 x] 22)).alloc (.cells #[.int .u64 y] 22)) from ((((Below.refl _ _).alloc (by simp <;> omega) _).alloc (by simp <;> omega) _).alloc (by simp <;> omega) _).alloc (by simp <;> omega) _)
  go_enter Try.func20, Try.ntmps20
  obtain ⟨x0a, x0b, x0c, -⟩ := id F_g.out
  obtain ⟨x1a, x1b, x1c, x1d, -⟩ := id F_r.out
  go_wp2_with fail
  clear x0a x0b x0c x1a x1b x1c x1d
  refine (rAsked_any _ hP hQ hG F_es.out F_ns.out (by simp) (by simp) HR.out).mono ?_
  rintro e w1 ⟨rfl, hb1⟩
  replace F_g := Lib.hid (F_g.out.keep hb1)
  replace F_r := Lib.hid (F_r.out.keep hb1)
  replace F_es := Lib.hid (F_es.out.keep hb1)
  replace F_ns := Lib.hid (F_ns.out.keep hb1)
  replace HBW := Lib.hid (HBW.out.trans (hb1.mono HBW.out.size))
  clear hb1
  clear F_es
  clear F_ns
  obtain ⟨x0a, x0b, x0c, -⟩ := id F_g.out
  obtain ⟨x1a, x1b, x1c, x1d, -⟩ := id F_r.out
  go_wp2_with fail
  clear x0a x0b x0c x1a x1b x1c x1d
  refine (rMake_any _ HH.out y0 yP m0 mQ x0 xQ HA.out HB.out).mono ?_
  rintro e w2 ⟨rfl, hb2⟩
  replace F_g := Lib.hid (F_g.out.keep hb2)
  replace F_r := Lib.hid (F_r.out.keep hb2)
  replace HBW := Lib.hid (HBW.out.trans (hb2.mono HBW.out.size))
  clear hb2
  obtain ⟨x0a, x0b, x0c, -⟩ := id F_g.out
  obtain ⟨x1a, x1b, x1c, x1d, -⟩ := id F_r.out
  go_wp2_with fail
  exact bodyPost_ret (res_pair rfl (F_r.out.stored a b) _ rfl rfl) rfl ⟨rfl, (HBW.out.setCell (by simp <;> omega) _).setCell (by simp <;> omega) _⟩

set_option maxHeartbeats 2000000 in
theorem rAdd_bad {P Q G a b c d r : Int} (w : World) (hP : 0 ≤ P) (hQ : 0 ≤ Q) (hG : 0 ≤ G) (hr : askS P Q G [] [a, b, c, d] = r) (hne : r ≠ 0) :
    Calls Try.prog 14 #[.agg #[.int .u64 P, .int .u64 Q, .int .u64 G], .agg #[.int .u64 a, .int .u64 b], .agg #[.int .u64 c, .int .u64 d]] w fun e w' => e = .returned (.tuple #[.agg #[.int .u64 0, .int .u64 0], .int .i64 r]) ∧ Below w.heap.size w w' := by
  have HR := Lib.hid hr
  clear hr
  have hnb : (r != 0) = true := by simpa using hne
  have hnc : (r == 0) = false := by simpa using hne
  have F_g := Lib.hid (show Boxed (((((w.alloc (.cells #[.int .u64 P, .int .u64 Q, .int .u64 G] 24)).alloc (.cells #[.int .u64 a, .int .u64 b] 26)).alloc (.cells #[.int .u64 c, .int .u64 d] 26)).alloc (.cells #[.int .u64 0, .int .u64 0] 26)).alloc (.cells #[.int .u64 a, .int .u64 b, .int .u64 c, .int .u64 d] 22)) (w.heap.size) P Q G from ((((Boxed.at _ P Q G _ (w.heap.size) (by simp)).alloc _).alloc _).alloc _).alloc _)
  have F_u := Lib.hid (show Pair (((((w.alloc (.cells #[.int .u64 P, .int .u64 Q, .int .u64 G] 24)).alloc (.cells #[.int .u64 a, .int .u64 b] 26)).alloc (.cells #[.int .u64 c, .int .u64 d] 26)).alloc (.cells #[.int .u64 0, .int .u64 0] 26)).alloc (.cells #[.int .u64 a, .int .u64 b, .int .u64 c, .int .u64 d] 22)) (w.heap.size + 1) a b from (((Pair.at _ a b _ (w.heap.size + 1) (by simp)).alloc _).alloc _).alloc _)
  have F_v := Lib.hid (show Pair (((((w.alloc (.cells #[.int .u64 P, .int .u64 Q, .int .u64 G] 24)).alloc (.cells #[.int .u64 a, .int .u64 b] 26)).alloc (.cells #[.int .u64 c, .int .u64 d] 26)).alloc (.cells #[.int .u64 0, .int .u64 0] 26)).alloc (.cells #[.int .u64 a, .int .u64 b, .int .u64 c, .int .u64 d] 22)) (w.heap.size + 1 + 1) c d from ((Pair.at _ c d _ (w.heap.size + 1 + 1) (by simp)).alloc _).alloc _)
  have F_r := Lib.hid (show Pair (((((w.alloc (.cells #[.int .u64 P, .int .u64 Q, .int .u64 G] 24)).alloc (.cells #[.int .u64 a, .int .u64 b] 26)).alloc (.cells #[.int .u64 c, .int .u64 d] 26)).alloc (.cells #[.int .u64 0, .int .u64 0] 26)).alloc (.cells #[.int .u64 a, .int .u64 b, .int .u64 c, .int .u64 d] 22)) (w.heap.size + 1 + 1 + 1) 0 0 from (Pair.at _ 0 0 _ (w.heap.size + 1 + 1 + 1) (by simp)).alloc _)
  have F_ns := Lib.hid (show ShL (((((w.alloc (.cells #[.int .u64 P, .int .u64 Q, .int .u64 G] 24)).alloc (.cells #[.int .u64 a, .int .u64 b] 26)).alloc (.cells #[.int .u64 c, .int .u64 d] 26)).alloc (.cells #[.int .u64 0, .int .u64 0] 26)).alloc (.cells #[.int .u64 a, .int .u64 b, .int .u64 c, .int .u64 d] 22)) (some ⟨w.heap.size + 1 + 1 + 1 + 1, 0, none⟩) 4 4 [a, b, c, d] from ShL.laid _ [a, b, c, d] _ _ (w.heap.size + 1 + 1 + 1 + 1) _ _ (by simp) rfl rfl)
  have HBW := Lib.hid (show Below w.heap.size w (((((w.alloc (.cells #[.int .u64 P, .int .u64 Q, .int .u64 G] 24)).alloc (.cells #[.int .u64 a, .int .u64 b] 26)).alloc (.cells #[.int .u64 c, .int .u64 d] 26)).alloc (.cells #[.int .u64 0, .int .u64 0] 26)).alloc (.cells #[.int .u64 a, .int .u64 b, .int .u64 c, .int .u64 d] 22)) from (((((Below.refl _ _).alloc (by simp <;> omega) _).alloc (by simp <;> omega) _).alloc (by simp <;> omega) _).alloc (by simp <;> omega) _).alloc (by simp <;> omega) _)
  go_enter Try.func14, Try.ntmps14
  obtain ⟨x0a, x0b, x0c, -⟩ := id F_g.out
  obtain ⟨x1a, x1b, x1c, x1d, -⟩ := id F_u.out
  obtain ⟨x2a, x2b, x2c, x2d, -⟩ := id F_v.out
  obtain ⟨x3a, x3b, x3c, x3d, -⟩ := id F_r.out
  go_wp2_with fail
  clear x0a x0b x0c x1a x1b x1c x1d x2a x2b x2c x2d x3a x3b x3c x3d
  refine (rAsked_any _ hP hQ hG (ShL.nil _) F_ns.out (by simp) (by simp) HR.out).mono ?_
  rintro e w1 ⟨rfl, hb1⟩
  replace F_g := Lib.hid (F_g.out.keep hb1)
  replace F_u := Lib.hid (F_u.out.keep hb1)
  replace F_v := Lib.hid (F_v.out.keep hb1)
  replace F_r := Lib.hid (F_r.out.keep hb1)
  replace F_ns := Lib.hid (F_ns.out.keep hb1)
  replace HBW := Lib.hid (HBW.out.trans (hb1.mono HBW.out.size))
  clear hb1
  clear F_ns
  obtain ⟨x0a, x0b, x0c, -⟩ := id F_g.out
  obtain ⟨x1a, x1b, x1c, x1d, -⟩ := id F_u.out
  obtain ⟨x2a, x2b, x2c, x2d, -⟩ := id F_v.out
  obtain ⟨x3a, x3b, x3c, x3d, -⟩ := id F_r.out
  go_wp2_with fail
  exact bodyPost_ret (res_pair rfl (F_r.out.stored 0 0) _ rfl rfl) rfl ⟨rfl, (HBW.out.setCell (by simp <;> omega) _).setCell (by simp <;> omega) _⟩

set_option maxHeartbeats 4000000 in
theorem rAdd_ok {P Q G a b c d x y : Int} (w : World) (hH : Has P Q G) (a0 : 0 ≤ a) (aP : a < P) (b0 : 0 ≤ b) (bP : b < P) (c0 : 0 ≤ c) (cP : c < P) (d0 : 0 ≤ d) (dP : d < P) (hx : a * c % P = x) (hy : b * d % P = y) :
    Calls Try.prog 14 #[.agg #[.int .u64 P, .int .u64 Q, .int .u64 G], .agg #[.int .u64 a, .int .u64 b], .agg #[.int .u64 c, .int .u64 d]] w fun e w' => e = .returned (.tuple #[.agg #[.int .u64 x, .int .u64 y], .int .i64 0]) ∧ Below w.heap.size w w' := by
  have PM : P < 2147483648 := hH.2.1
  have HR := Lib.hid (askS_ok (es := []) (ns := [a, b, c, d]) hH (by simp <;> omega) (by simp <;> omega))
  have hP : 0 ≤ P := by have := hH.1; omega
  have hP1 : 1 < P := by have := hH.1; omega
  have hQ : 0 ≤ Q := hH.2.2.1
  have hG : 0 ≤ G := by have := hH.2.2.2.2.1; omega
  have hGP : G < P := hH.2.2.2.2.2
  have hQm : Q < 2147483648 := by have h1 := hH.2.2.2.1; have h2 := hH.2.1; omega
  have HH := Lib.hid hH
  clear hH
  have HX := Lib.hid hx
  have HY := Lib.hid hy
  clear hx hy
  have F_g := Lib.hid (show Boxed (((((w.alloc (.cells #[.int .u64 P, .int .u64 Q, .int .u64 G] 24)).alloc (.cells #[.int .u64 a, .int .u64 b] 26)).alloc (.cells #[.int .u64 c, .int .u64 d] 26)).alloc (.cells #[.int .u64 0, .int .u64 0] 26)).alloc (.cells #[.int .u64 a, .int .u64 b, .int .u64 c, .int .u64 d] 22)) (w.heap.size) P Q G from ((((Boxed.at _ P Q G _ (w.heap.size) (by simp)).alloc _).alloc _).alloc _).alloc _)
  have F_u := Lib.hid (show Pair (((((w.alloc (.cells #[.int .u64 P, .int .u64 Q, .int .u64 G] 24)).alloc (.cells #[.int .u64 a, .int .u64 b] 26)).alloc (.cells #[.int .u64 c, .int .u64 d] 26)).alloc (.cells #[.int .u64 0, .int .u64 0] 26)).alloc (.cells #[.int .u64 a, .int .u64 b, .int .u64 c, .int .u64 d] 22)) (w.heap.size + 1) a b from (((Pair.at _ a b _ (w.heap.size + 1) (by simp)).alloc _).alloc _).alloc _)
  have F_v := Lib.hid (show Pair (((((w.alloc (.cells #[.int .u64 P, .int .u64 Q, .int .u64 G] 24)).alloc (.cells #[.int .u64 a, .int .u64 b] 26)).alloc (.cells #[.int .u64 c, .int .u64 d] 26)).alloc (.cells #[.int .u64 0, .int .u64 0] 26)).alloc (.cells #[.int .u64 a, .int .u64 b, .int .u64 c, .int .u64 d] 22)) (w.heap.size + 1 + 1) c d from ((Pair.at _ c d _ (w.heap.size + 1 + 1) (by simp)).alloc _).alloc _)
  have F_r := Lib.hid (show Pair (((((w.alloc (.cells #[.int .u64 P, .int .u64 Q, .int .u64 G] 24)).alloc (.cells #[.int .u64 a, .int .u64 b] 26)).alloc (.cells #[.int .u64 c, .int .u64 d] 26)).alloc (.cells #[.int .u64 0, .int .u64 0] 26)).alloc (.cells #[.int .u64 a, .int .u64 b, .int .u64 c, .int .u64 d] 22)) (w.heap.size + 1 + 1 + 1) 0 0 from (Pair.at _ 0 0 _ (w.heap.size + 1 + 1 + 1) (by simp)).alloc _)
  have F_ns := Lib.hid (show ShL (((((w.alloc (.cells #[.int .u64 P, .int .u64 Q, .int .u64 G] 24)).alloc (.cells #[.int .u64 a, .int .u64 b] 26)).alloc (.cells #[.int .u64 c, .int .u64 d] 26)).alloc (.cells #[.int .u64 0, .int .u64 0] 26)).alloc (.cells #[.int .u64 a, .int .u64 b, .int .u64 c, .int .u64 d] 22)) (some ⟨w.heap.size + 1 + 1 + 1 + 1, 0, none⟩) 4 4 [a, b, c, d] from ShL.laid _ [a, b, c, d] _ _ (w.heap.size + 1 + 1 + 1 + 1) _ _ (by simp) rfl rfl)
  have HBW := Lib.hid (show Below w.heap.size w (((((w.alloc (.cells #[.int .u64 P, .int .u64 Q, .int .u64 G] 24)).alloc (.cells #[.int .u64 a, .int .u64 b] 26)).alloc (.cells #[.int .u64 c, .int .u64 d] 26)).alloc (.cells #[.int .u64 0, .int .u64 0] 26)).alloc (.cells #[.int .u64 a, .int .u64 b, .int .u64 c, .int .u64 d] 22)) from (((((Below.refl _ _).alloc (by simp <;> omega) _).alloc (by simp <;> omega) _).alloc (by simp <;> omega) _).alloc (by simp <;> omega) _).alloc (by simp <;> omega) _)
  go_enter Try.func14, Try.ntmps14
  obtain ⟨x0a, x0b, x0c, -⟩ := id F_g.out
  obtain ⟨x1a, x1b, x1c, x1d, -⟩ := id F_u.out
  obtain ⟨x2a, x2b, x2c, x2d, -⟩ := id F_v.out
  obtain ⟨x3a, x3b, x3c, x3d, -⟩ := id F_r.out
  go_wp2_with fail
  clear x0a x0b x0c x1a x1b x1c x1d x2a x2b x2c x2d x3a x3b x3c x3d
  refine (rAsked_any _ hP hQ hG (ShL.nil _) F_ns.out (by simp) (by simp) HR.out).mono ?_
  rintro e w1 ⟨rfl, hb1⟩
  replace F_g := Lib.hid (F_g.out.keep hb1)
  replace F_u := Lib.hid (F_u.out.keep hb1)
  replace F_v := Lib.hid (F_v.out.keep hb1)
  replace F_r := Lib.hid (F_r.out.keep hb1)
  replace F_ns := Lib.hid (F_ns.out.keep hb1)
  replace HBW := Lib.hid (HBW.out.trans (hb1.mono HBW.out.size))
  clear hb1
  clear F_ns
  obtain ⟨x0a, x0b, x0c, -⟩ := id F_g.out
  obtain ⟨x1a, x1b, x1c, x1d, -⟩ := id F_u.out
  obtain ⟨x2a, x2b, x2c, x2d, -⟩ := id F_v.out
  obtain ⟨x3a, x3b, x3c, x3d, -⟩ := id F_r.out
  go_wp2_with fail
  clear x0a x0b x0c x1a x1b x1c x1d x2a x2b x2c x2d x3a x3b x3c x3d
  refine (rPlus_any _ PM a0 aP b0 bP c0 cP d0 dP HX.out HY.out).mono ?_
  rintro e w2 ⟨rfl, hb2⟩
  replace F_g := Lib.hid (F_g.out.keep hb2)
  replace F_u := Lib.hid (F_u.out.keep hb2)
  replace F_v := Lib.hid (F_v.out.keep hb2)
  replace F_r := Lib.hid (F_r.out.keep hb2)
  replace HBW := Lib.hid (HBW.out.trans (hb2.mono HBW.out.size))
  clear hb2
  obtain ⟨x0a, x0b, x0c, -⟩ := id F_g.out
  obtain ⟨x1a, x1b, x1c, x1d, -⟩ := id F_u.out
  obtain ⟨x2a, x2b, x2c, x2d, -⟩ := id F_v.out
  obtain ⟨x3a, x3b, x3c, x3d, -⟩ := id F_r.out
  go_wp2_with fail
  exact bodyPost_ret (res_pair rfl (F_r.out.stored x y) _ rfl rfl) rfl ⟨rfl, (HBW.out.setCell (by simp <;> omega) _).setCell (by simp <;> omega) _⟩

set_option maxHeartbeats 2000000 in
theorem rBoth_any {P Q G a b : Int} {u v r : Bool} (w : World) (hH : Has P Q G) (a0 : 0 ≤ a) (aP : a < P) (b0 : 0 ≤ b) (bP : b < P) (hu : u = true ↔ Mem P Q a) (hv : v = true ↔ Mem P Q b) (hr : (u && v) = r) :
    Calls Try.prog 43 #[.agg #[.int .u64 P, .int .u64 Q, .int .u64 G], .agg #[.int .u64 a, .int .u64 b]] w fun e w' => e = .returned (.bool r) ∧ Below w.heap.size w w' := by
  have hP : 0 ≤ P := by have := hH.1; omega
  have hP1 : 1 < P := by have := hH.1; omega
  have hQ : 0 ≤ Q := hH.2.2.1
  have hG : 0 ≤ G := by have := hH.2.2.2.2.1; omega
  have hGP : G < P := hH.2.2.2.2.2
  have hQm : Q < 2147483648 := by have h1 := hH.2.2.2.1; have h2 := hH.2.1; omega
  have HH := Lib.hid hH
  clear hH
  have HU := Lib.hid hu
  have HV := Lib.hid hv
  have HZ := Lib.hid hr
  clear hu hv hr
  have F_g := Lib.hid (show Boxed ((w.alloc (.cells #[.int .u64 P, .int .u64 Q, .int .u64 G] 24)).alloc (.cells #[.int .u64 a, .int .u64 b] 26)) (w.heap.size) P Q G from (Boxed.at _ P Q G _ (w.heap.size) (by simp)).alloc _)
  have F_c := Lib.hid (show Pair ((w.alloc (.cells #[.int .u64 P, .int .u64 Q, .int .u64 G] 24)).alloc (.cells #[.int .u64 a, .int .u64 b] 26)) (w.heap.size + 1) a b from Pair.at _ a b _ (w.heap.size + 1) (by simp))
  have HBW := Lib.hid (show Below w.heap.size w ((w.alloc (.cells #[.int .u64 P, .int .u64 Q, .int .u64 G] 24)).alloc (.cells #[.int .u64 a, .int .u64 b] 26)) from ((Below.refl _ _).alloc (by simp <;> omega) _).alloc (by simp <;> omega) _)
  go_enter Try.func43, Try.ntmps43
  obtain ⟨x0a, x0b, x0c, -⟩ := id F_g.out
  obtain ⟨x1a, x1b, x1c, x1d, -⟩ := id F_c.out
  go_wp2_with fail
  clear x0a x0b x0c x1a x1b x1c x1d
  refine (rIn_gen hQ _ HH.out a0 aP HU.out).mono ?_
  rintro e w1 ⟨rfl, hb1⟩
  replace F_g := Lib.hid (F_g.out.keep hb1)
  replace F_c := Lib.hid (F_c.out.keep hb1)
  replace HBW := Lib.hid (HBW.out.trans (hb1.mono HBW.out.size))
  clear hb1
  cases u
  · skip
    obtain ⟨x0a, x0b, x0c, -⟩ := id F_g.out
    obtain ⟨x1a, x1b, x1c, x1d, -⟩ := id F_c.out
    go_wp2_with fail
    go_ret
    exact ⟨ret_bool HZ.out, HBW.out⟩
  · skip
    obtain ⟨x0a, x0b, x0c, -⟩ := id F_g.out
    obtain ⟨x1a, x1b, x1c, x1d, -⟩ := id F_c.out
    go_wp2_with fail
    clear x0a x0b x0c x1a x1b x1c x1d
    refine (rIn_gen hQ _ HH.out b0 bP HV.out).mono ?_
    rintro e w2 ⟨rfl, hb2⟩
    replace F_g := Lib.hid (F_g.out.keep hb2)
    replace F_c := Lib.hid (F_c.out.keep hb2)
    replace HBW := Lib.hid (HBW.out.trans (hb2.mono HBW.out.size))
    clear hb2
    obtain ⟨x0a, x0b, x0c, -⟩ := id F_g.out
    obtain ⟨x1a, x1b, x1c, x1d, -⟩ := id F_c.out
    go_wp2_with fail
    go_ret
    exact ⟨ret_bool HZ.out, HBW.out⟩

set_option maxHeartbeats 2000000 in
theorem rValid_bad {P Q G a b r : Int} (w : World) (hP : 0 ≤ P) (hQ : 0 ≤ Q) (hG : 0 ≤ G) (hr : askS P Q G [] [a, b] = r) (hne : r ≠ 0) :
    Calls Try.prog 22 #[.agg #[.int .u64 P, .int .u64 Q, .int .u64 G], .agg #[.int .u64 a, .int .u64 b]] w fun e w' => e = .returned (.tuple #[.bool false, .int .i64 r]) ∧ Below w.heap.size w w' := by
  have HR := Lib.hid hr
  clear hr
  have hnb : (r != 0) = true := by simpa using hne
  have hnc : (r == 0) = false := by simpa using hne
  have F_g := Lib.hid (show Boxed (((w.alloc (.cells #[.int .u64 P, .int .u64 Q, .int .u64 G] 24)).alloc (.cells #[.int .u64 a, .int .u64 b] 26)).alloc (.cells #[.int .u64 a, .int .u64 b] 22)) (w.heap.size) P Q G from ((Boxed.at _ P Q G _ (w.heap.size) (by simp)).alloc _).alloc _)
  have F_c := Lib.hid (show Pair (((w.alloc (.cells #[.int .u64 P, .int .u64 Q, .int .u64 G] 24)).alloc (.cells #[.int .u64 a, .int .u64 b] 26)).alloc (.cells #[.int .u64 a, .int .u64 b] 22)) (w.heap.size + 1) a b from (Pair.at _ a b _ (w.heap.size + 1) (by simp)).alloc _)
  have F_ns := Lib.hid (show ShL (((w.alloc (.cells #[.int .u64 P, .int .u64 Q, .int .u64 G] 24)).alloc (.cells #[.int .u64 a, .int .u64 b] 26)).alloc (.cells #[.int .u64 a, .int .u64 b] 22)) (some ⟨w.heap.size + 1 + 1, 0, none⟩) 2 2 [a, b] from ShL.laid _ [a, b] _ _ (w.heap.size + 1 + 1) _ _ (by simp) rfl rfl)
  have HBW := Lib.hid (show Below w.heap.size w (((w.alloc (.cells #[.int .u64 P, .int .u64 Q, .int .u64 G] 24)).alloc (.cells #[.int .u64 a, .int .u64 b] 26)).alloc (.cells #[.int .u64 a, .int .u64 b] 22)) from (((Below.refl _ _).alloc (by simp <;> omega) _).alloc (by simp <;> omega) _).alloc (by simp <;> omega) _)
  go_enter Try.func22, Try.ntmps22
  obtain ⟨x0a, x0b, x0c, -⟩ := id F_g.out
  obtain ⟨x1a, x1b, x1c, x1d, -⟩ := id F_c.out
  go_wp2_with fail
  clear x0a x0b x0c x1a x1b x1c x1d
  refine (rAsked_any _ hP hQ hG (ShL.nil _) F_ns.out (by simp) (by simp) HR.out).mono ?_
  rintro e w1 ⟨rfl, hb1⟩
  replace F_g := Lib.hid (F_g.out.keep hb1)
  replace F_c := Lib.hid (F_c.out.keep hb1)
  replace F_ns := Lib.hid (F_ns.out.keep hb1)
  replace HBW := Lib.hid (HBW.out.trans (hb1.mono HBW.out.size))
  clear hb1
  clear F_ns
  obtain ⟨x0a, x0b, x0c, -⟩ := id F_g.out
  obtain ⟨x1a, x1b, x1c, x1d, -⟩ := id F_c.out
  go_wp2_with fail
  go_ret2
  exact ⟨rfl, HBW.out⟩

set_option maxHeartbeats 4000000 in
theorem rValid_ok {P Q G a b : Int} (w : World) (hH : Has P Q G) (a0 : 0 ≤ a) (aP : a < P) (b0 : 0 ≤ b) (bP : b < P) {u v r : Bool} (hu : u = true ↔ Mem P Q a) (hv : v = true ↔ Mem P Q b) (hr : (u && v) = r) :
    Calls Try.prog 22 #[.agg #[.int .u64 P, .int .u64 Q, .int .u64 G], .agg #[.int .u64 a, .int .u64 b]] w fun e w' => e = .returned (.tuple #[.bool r, .int .i64 0]) ∧ Below w.heap.size w w' := by
  have PM : P < 2147483648 := hH.2.1
  have HR := Lib.hid (askS_ok (es := []) (ns := [a, b]) hH (by simp <;> omega) (by simp <;> omega))
  have hP : 0 ≤ P := by have := hH.1; omega
  have hP1 : 1 < P := by have := hH.1; omega
  have hQ : 0 ≤ Q := hH.2.2.1
  have hG : 0 ≤ G := by have := hH.2.2.2.2.1; omega
  have hGP : G < P := hH.2.2.2.2.2
  have hQm : Q < 2147483648 := by have h1 := hH.2.2.2.1; have h2 := hH.2.1; omega
  have HH := Lib.hid hH
  clear hH
  have HU := Lib.hid hu
  have HV := Lib.hid hv
  have HZ := Lib.hid hr
  clear hu hv hr
  have F_g := Lib.hid (show Boxed (((w.alloc (.cells #[.int .u64 P, .int .u64 Q, .int .u64 G] 24)).alloc (.cells #[.int .u64 a, .int .u64 b] 26)).alloc (.cells #[.int .u64 a, .int .u64 b] 22)) (w.heap.size) P Q G from ((Boxed.at _ P Q G _ (w.heap.size) (by simp)).alloc _).alloc _)
  have F_c := Lib.hid (show Pair (((w.alloc (.cells #[.int .u64 P, .int .u64 Q, .int .u64 G] 24)).alloc (.cells #[.int .u64 a, .int .u64 b] 26)).alloc (.cells #[.int .u64 a, .int .u64 b] 22)) (w.heap.size + 1) a b from (Pair.at _ a b _ (w.heap.size + 1) (by simp)).alloc _)
  have F_ns := Lib.hid (show ShL (((w.alloc (.cells #[.int .u64 P, .int .u64 Q, .int .u64 G] 24)).alloc (.cells #[.int .u64 a, .int .u64 b] 26)).alloc (.cells #[.int .u64 a, .int .u64 b] 22)) (some ⟨w.heap.size + 1 + 1, 0, none⟩) 2 2 [a, b] from ShL.laid _ [a, b] _ _ (w.heap.size + 1 + 1) _ _ (by simp) rfl rfl)
  have HBW := Lib.hid (show Below w.heap.size w (((w.alloc (.cells #[.int .u64 P, .int .u64 Q, .int .u64 G] 24)).alloc (.cells #[.int .u64 a, .int .u64 b] 26)).alloc (.cells #[.int .u64 a, .int .u64 b] 22)) from (((Below.refl _ _).alloc (by simp <;> omega) _).alloc (by simp <;> omega) _).alloc (by simp <;> omega) _)
  go_enter Try.func22, Try.ntmps22
  obtain ⟨x0a, x0b, x0c, -⟩ := id F_g.out
  obtain ⟨x1a, x1b, x1c, x1d, -⟩ := id F_c.out
  go_wp2_with fail
  clear x0a x0b x0c x1a x1b x1c x1d
  refine (rAsked_any _ hP hQ hG (ShL.nil _) F_ns.out (by simp) (by simp) HR.out).mono ?_
  rintro e w1 ⟨rfl, hb1⟩
  replace F_g := Lib.hid (F_g.out.keep hb1)
  replace F_c := Lib.hid (F_c.out.keep hb1)
  replace F_ns := Lib.hid (F_ns.out.keep hb1)
  replace HBW := Lib.hid (HBW.out.trans (hb1.mono HBW.out.size))
  clear hb1
  clear F_ns
  obtain ⟨x0a, x0b, x0c, -⟩ := id F_g.out
  obtain ⟨x1a, x1b, x1c, x1d, -⟩ := id F_c.out
  go_wp2_with fail
  clear x0a x0b x0c x1a x1b x1c x1d
  refine (rBoth_any _ HH.out a0 aP b0 bP HU.out HV.out HZ.out).mono ?_
  rintro e w2 ⟨rfl, hb2⟩
  replace F_g := Lib.hid (F_g.out.keep hb2)
  replace F_c := Lib.hid (F_c.out.keep hb2)
  replace HBW := Lib.hid (HBW.out.trans (hb2.mono HBW.out.size))
  clear hb2
  obtain ⟨x0a, x0b, x0c, -⟩ := id F_g.out
  obtain ⟨x1a, x1b, x1c, x1d, -⟩ := id F_c.out
  go_wp2_with fail
  go_ret2
  exact ⟨rfl, HBW.out⟩
end Go.Proofs.Ytffefhldfnfohaa
