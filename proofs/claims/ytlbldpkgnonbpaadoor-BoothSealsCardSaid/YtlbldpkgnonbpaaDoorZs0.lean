/- alive: marks are sealed, checked, cast and challenged. -/
import Derived.Test.YtlbldpkgnonbpaaDoorZsZ
namespace Go.Proofs.YtlbldpkgnonbpaaDoor
open Go Go.RowKit Num Sha
set_option linter.unusedSimpArgs false
set_option linter.unusedVariables false

theorem small36_any (w : World) :
    Calls Tryd.prog 28 #[] w fun e w' => e = .returned (.agg #[.int .u64 23, .int .u64 11, .int .u64 4]) ∧ Below w.heap.size w w' := by
  go_enter Tryd.func28, Tryd.ntmps28
  go_wp2
  exact bodyPost_ret (v := .agg #[.int .u64 23, .int .u64 11, .int .u64 4]) (by simp [results, Tryd.results28, go_sem]) rfl ⟨rfl, (Below.refl _ _).alloc (Nat.le_refl _) _⟩
theorem match_s {V : Vt} {R : Rv} (w : World) (hT : Tabs w) (hV : VtIn w V) (hR : RvIn w R) (hrn : R.n ≤ 1000) (h1 : rangeP 11 2 R) (h2 : matchP 23 4 18 2 V R) :
    Calls Tryd.prog 26 #[.agg #[.int .u64 23, .int .u64 11, .int .u64 4], .int .u64 18, .int .i64 2, V.v, R.v] w fun e w' => e = .returned (.tuple #[.bool true, .int .i64 0]) ∧ Below w.heap.size w w' := by
  refine (matches_any (P := 23) (Q := 11) (G := 4) (y := 18) (n := 2) w hT (by decide) (by decide) (by decide) (by decide) hV hR hrn).mono ?_
  rintro e w' ⟨hb, ⟨hc, -⟩ | ⟨-, ⟨hr, -⟩ | ⟨-, v, rfl, hv⟩⟩⟩
  · exact absurd chk_s hc
  · exact absurd h1 hr
  · rw [hv.2 h2]; exact ⟨rfl, hb⟩
theorem cast_s {V : Vt} {one : Bool} (w : World) (hT : Tabs w) (hV : VtIn w V) (hn : V.n = 2) (hm : V.m = 2) (hv : validP 23 11 4 18 2 V) (ho : V.one = one) :
    Calls Tryd.prog 19 #[.agg #[.int .u64 23, .int .u64 11, .int .u64 4], .int .u64 18, .int .i64 2, .bool one, .agg #[.slice none 0 0, .slice none 0 0, .slice none 0 0], V.v] w fun e w' => (∃ a c, e = .returned (.tuple #[.agg #[.slice a 1 c, .slice none 0 0, .slice none 0 0], .int .i64 0])) ∧ Below w.heap.size w w' := by
  refine (cast_nil (P := 23) (Q := 11) (G := 4) (y := 18) (n := 2) (e' := 0) w hT (by decide) (by decide) (by decide) (by decide) hV (by omega) (by omega) (adm_s hv ho)).mono ?_
  rintro e w' ⟨hb, ⟨h0, -⟩ | ⟨-, a, c, U, rfl, -⟩⟩
  · exact absurd rfl h0
  · exact ⟨⟨a, c, rfl⟩, hb⟩
theorem chal_s {V : Vt} {R : Rv} {one : Bool} (w : World) (hT : Tabs w) (hV : VtIn w V) (hR : RvIn w R) (hn : V.n = 2) (hm : V.m = 2) (hrn : R.n ≤ 1000) (hrm : R.m = 2) (hv : validP 23 11 4 18 2 V) (ho : V.one = one) (h1 : rangeP 11 2 R) (h2 : matchP 23 4 18 2 V R) :
    Calls Tryd.prog 20 #[.agg #[.int .u64 23, .int .u64 11, .int .u64 4], .int .u64 18, .int .i64 2, .bool one, .agg #[.slice none 0 0, .slice none 0 0, .slice none 0 0], V.v, R.v] w fun e w' => (∃ a c a' c', e = .returned (.tuple #[.agg #[.slice none 0 0, .slice a 1 c, .slice a' 1 c'], .int .i64 0])) ∧ Below w.heap.size w w' := by
  refine (chal_nil (P := 23) (Q := 11) (G := 4) (y := 18) (n := 2) (e' := 0) w hT (by decide) (by decide) (by decide) (by decide) hV hR (by omega) (by omega) hrn (by omega) (adm_s hv ho)).mono ?_
  rintro e w' ⟨hb, ⟨h0, -⟩ | ⟨-, ⟨h0, -⟩ | ⟨-, a, a', c, c', rfl⟩⟩⟩
  · exact absurd rfl h0
  · exact absurd ⟨h1, h2⟩ h0
  · exact ⟨⟨a, c, a', c', rfl⟩, hb⟩
theorem check_s {V : Vt} (w : World) (hT : Tabs w) (hV : VtIn w V) (hv : validP 23 11 4 18 2 V) :
    Calls Tryd.prog 27 #[.agg #[.int .u64 23, .int .u64 11, .int .u64 4], .int .u64 18, .int .i64 2, V.v] w fun e w' => e = .returned (.int .i64 0) ∧ Below w.heap.size w w' :=
  check_any (P := 23) (Q := 11) (G := 4) (y := 18) (n := 2) (e' := 0) w hT (by decide) (by decide) (by decide) (by decide) hV (.inr ⟨chk_s, .inl ⟨hv, rfl⟩⟩)
theorem run_al_booth (ρ : Operand → Value) (w : World) (dst : Option Tmp) (ty : TypeId) : (execOp ρ (bareOp dst (.alloc 53) ty)).run Tryd.prog w = .ok (.value (.pointer (some ⟨w.heap.size, 0, none⟩))) (w.alloc (.cells #[.slice none 0 0, .slice none 0 0, .slice none 0 0] 53)) := by
  unfold bareOp
  go_simp

set_option maxRecDepth 100000 in
set_option maxHeartbeats 8000000 in
theorem alive_any (w : World) (hT : Tabs w) :
    Calls Tryd.prog 17 #[] w fun e w' => e = .returned (.bool true) ∧ Below w.heap.size w w' := by
  have HT := Lib.hid hT
  clear hT
  go_enter Tryd.func17, Tryd.ntmps17
  go_wp2_with fail
  refine (small36_any _).mono ?_
  rintro e w1 ⟨rfl, hb1⟩
  go_wp2_with fail
  have hbl : Below w.heap.size w (w1.alloc (.cells #[.int .i64 1] 3)) := hb1.alloc hb1.size _
  refine (seal_any (P := 23) (Q := 11) (G := 4) (y := 18) (n := 2) (ms := [1]) (seed := seedZ 7) _ (HT.out.below hbl) (by decide) (by decide) (by decide) (by decide) (ShI.lit1 .i64 w1 1 3 _ rfl) (by intro h; cases h) (by intro x hx; simp at hx; omega) (by omega) rfl (seedZ_bytes (by decide))).mono ?_
  rintro e w2 hs
  obtain ⟨hb2, V, R, rfl, hV, hR, hF, hvp, hrg, hmt⟩ := seal7 hs
  have HF := Lib.hid hF
  have HVP := Lib.hid hvp
  have HRG := Lib.hid hrg
  have HMT := Lib.hid hmt
  have HV := Lib.hid hV
  have HR := Lib.hid hR
  have HW2 := Lib.hid (show w.heap.size ≤ w2.heap.size from Nat.le_trans hbl.size hb2.size)
  have HT2 := Lib.hid (HT.out.below (hbl.trans (hb2.mono hbl.size)))
  have HBW := Lib.hid (show Below w.heap.size w ((w2.alloc (.cells #[.slice V.a V.n V.c, .slice V.b V.m V.d, .bool V.one, .int .u64 V.z.r0, .int .u64 V.z.r1, .int .u64 V.z.s0, .int .u64 V.z.s1, .int .u64 V.z.c0, .int .u64 V.z.c1, .int .u64 V.z.z0, .int .u64 V.z.z1] 29)).alloc (.cells #[.slice R.a R.n R.c, .slice R.b R.m R.d] 57)) from ((hbl.trans (hb2.mono hbl.size)).alloc HW2.out _).alloc (by have := HW2.out; simp; omega) _)
  have HB2 := Lib.hid (show Below w2.heap.size w2 ((w2.alloc (.cells #[.slice V.a V.n V.c, .slice V.b V.m V.d, .bool V.one, .int .u64 V.z.r0, .int .u64 V.z.r1, .int .u64 V.z.s0, .int .u64 V.z.s1, .int .u64 V.z.c0, .int .u64 V.z.c1, .int .u64 V.z.z0, .int .u64 V.z.z1] 29)).alloc (.cells #[.slice R.a R.n R.c, .slice R.b R.m R.d] 57)) from ((Below.refl _ _).alloc (Nat.le_refl _) _).alloc (by simp) _)
  have F_v := Lib.hid ((Cl.at w2 [.slice V.a V.n V.c, .slice V.b V.m V.d, .bool V.one, .int .u64 V.z.r0, .int .u64 V.z.r1, .int .u64 V.z.s0, .int .u64 V.z.s1, .int .u64 V.z.c0, .int .u64 V.z.c1, .int .u64 V.z.z0, .int .u64 V.z.z1] 29 w2.heap.size rfl).alloc (.cells #[.slice R.a R.n R.c, .slice R.b R.m R.d] 57))
  have F_r := Lib.hid (Cl.at (w2.alloc (.cells #[.slice V.a V.n V.c, .slice V.b V.m V.d, .bool V.one, .int .u64 V.z.r0, .int .u64 V.z.r1, .int .u64 V.z.s0, .int .u64 V.z.s1, .int .u64 V.z.c0, .int .u64 V.z.c1, .int .u64 V.z.z0, .int .u64 V.z.z1] 29)) [.slice R.a R.n R.c, .slice R.b R.m R.d] 57 (w2.heap.size + 1) (by simp))
  clear hs hb1 hbl hb2 hV hR hF hvp hrg hmt HT
  unfold Vt.v Rv.v
  go_wp2_with fail
  replace F_v := Lib.hid F_v.out.drew
  replace F_r := Lib.hid F_r.out.drew
  replace HBW := Lib.hid HBW.out.drew
  replace HB2 := Lib.hid HB2.out.drew
  have hS0 := And.intro F_v.out F_r.out
  refine wp_region_stage 3 (fun w' => Cl w' w2.heap.size [.slice V.a V.n V.c, .slice V.b V.m V.d, .bool V.one, .int .u64 V.z.r0, .int .u64 V.z.r1, .int .u64 V.z.s0, .int .u64 V.z.s1, .int .u64 V.z.c0, .int .u64 V.z.c1, .int .u64 V.z.z0, .int .u64 V.z.z1] ∧ Cl w' (w2.heap.size + 1) [.slice R.a R.n R.c, .slice R.b R.m R.d]) (by kernel_rfl) ?_
  refine wpAnyB_take (i := 1) (some 20) (Op.load 29 (Operand.tmp 1)) 29 (v := ?_) ⟨_, rfl, rfl, rfl, rfl, rfl⟩ (by kernel_rfl) (by kernel_rfl) (by kernel_rfl) [3] (by kernel_rfl) (fun _ _ _ h => h) hS0 (fun w' hSw => ?_) ?_
  rotate_left
  · obtain ⟨t1, t2⟩ := hSw; obtain ⟨⟨q0, q1, q2, q3, q4, q5, q6, q7, q8, q9, q10⟩, -⟩ := t1.k11; have r0 := t2.c 0 _ rfl; have r1 := t2.c 1 _ rfl
    unfold bareOp
    go_simp
    try with_reducible rfl
  simp only [Act.put, sZc, sZa, sZb]
  refine wpAnyB_take (i := 2) (some 21) (Op.load 57 (Operand.tmp 2)) 57 (v := ?_) ⟨_, rfl, rfl, rfl, rfl, rfl⟩ (by kernel_rfl) (by kernel_rfl) (by kernel_rfl) [3] (by kernel_rfl) (fun _ _ _ h => h) hS0 (fun w' hSw => ?_) ?_
  rotate_left
  · obtain ⟨t1, t2⟩ := hSw; obtain ⟨⟨q0, q1, q2, q3, q4, q5, q6, q7, q8, q9, q10⟩, -⟩ := t1.k11; have r0 := t2.c 0 _ rfl; have r1 := t2.c 1 _ rfl
    unfold bareOp
    go_simp
    try with_reducible rfl
  simp only [Act.put, sZc, sZa, sZb]
  refine wpAnyB_only (i := 0) (some 19) (Op.call { callee := Callee.value (Operand.func 28), args := #[], argTypes := #[] }) 49 ⟨_, rfl, rfl, rfl, rfl, rfl⟩ (by kernel_rfl) (fun K hK => ?_)
  unfold bareOp
  refine OpW.out (wp_of_enter (run_call _ _ _ _ 28 Tryd.func28 (vs := #[]) (by simp only [List.map_toArray, List.map_nil]) rfl (by kernel_rfl) (by kernel_rfl)) (small36_any _) ?_)
  rintro e w3 ⟨rfl, hb3⟩
  refine ⟨_, rfl, ?_⟩
  replace F_v := Lib.hid (F_v.out.keep hb3)
  replace F_r := Lib.hid (F_r.out.keep hb3)
  replace HBW := Lib.hid (HBW.out.trans (hb3.mono HBW.out.size))
  replace HB2 := Lib.hid (HB2.out.trans (hb3.mono HB2.out.size))
  clear hb3 hS0
  have hS0 := And.intro F_v.out F_r.out
  refine hK.out _ _ (fun _ => hS0) ?_
  clear hK K
  try simp only [Act.put, sZc, sZa, sZb]
  refine wpAnyB_only (i := 3) (some 22) (Op.call { callee := Callee.value (Operand.func 26), args := #[Operand.tmp 19, Operand.const (Value.int IntKind.u64 18), Operand.const (Value.int IntKind.i64 2), Operand.tmp 20, Operand.tmp 21], argTypes := #[49, 24, 3, 29, 57] }) 70 ⟨_, rfl, rfl, rfl, rfl, rfl⟩ (by kernel_rfl) (fun K hK => ?_)
  unfold bareOp
  refine OpW.out (wp_of_enter (run_call _ _ _ _ 26 Tryd.func26 (vs := #[.agg #[.int .u64 23, .int .u64 11, .int .u64 4], .int .u64 18, .int .i64 2, V.v, R.v]) (by simp only [List.map_toArray, List.map_cons, List.map_nil]; rfl) rfl (by kernel_rfl) (by kernel_rfl)) (match_s _ (HT2.out.below HB2.out) (HV.out.keep HB2.out) (HR.out.keep HB2.out) (by rw [HF.out.rn]; decide) HRG.out HMT.out) ?_)
  rintro e w4 ⟨rfl, hb4⟩
  refine ⟨_, rfl, ?_⟩
  replace F_v := Lib.hid (F_v.out.keep hb4)
  replace F_r := Lib.hid (F_r.out.keep hb4)
  replace HBW := Lib.hid (HBW.out.trans (hb4.mono HBW.out.size))
  replace HB2 := Lib.hid (HB2.out.trans (hb4.mono HB2.out.size))
  clear hb4 hS0
  have hS0 := And.intro F_v.out F_r.out
  refine hK.out _ _ (fun h => absurd (h.symm.trans (by kernel_rfl : _ = true)) (by decide)) ?_
  clear hK K
  try simp only [Act.put, sZc, sZa, sZb]
  refine wpAnyB_takeP (i := 4) (some 18) (Op.move (Operand.tmp 22)) 70 (v := ?_) ⟨_, rfl, rfl, rfl, rfl, rfl⟩ (by kernel_rfl) (by kernel_rfl) (by kernel_rfl) (by kernel_rfl) (fun _ _ _ h => h) (fun h => absurd (h.symm.trans (by kernel_rfl : _ = true)) (by decide)) (fun w' => ?_) ?_
  rotate_left
  · unfold bareOp
    go_simp
    try with_reducible rfl
  simp only [Act.put, sZc, sZa, sZb]
  refine wpAnyB_takeP (i := 5) (some 23) (Op.extract (Operand.tmp 18) 0) 4 (v := ?_) ⟨_, rfl, rfl, rfl, rfl, rfl⟩ (by kernel_rfl) (by kernel_rfl) (by kernel_rfl) (by kernel_rfl) (fun _ _ _ h => h) (fun h => absurd (h.symm.trans (by kernel_rfl : _ = true)) (by decide)) (fun w' => ?_) ?_
  rotate_left
  · unfold bareOp
    go_simp
    try with_reducible rfl
  simp only [Act.put, sZc, sZa, sZb]
  refine wpAnyB_takeP (i := 6) (some 24) (Op.extract (Operand.tmp 18) 1) 32 (v := ?_) ⟨_, rfl, rfl, rfl, rfl, rfl⟩ (by kernel_rfl) (by kernel_rfl) (by kernel_rfl) (by kernel_rfl) (fun _ _ _ h => h) (fun h => absurd (h.symm.trans (by kernel_rfl : _ = true)) (by decide)) (fun w' => ?_) ?_
  rotate_left
  · unfold bareOp
    go_simp
    try with_reducible rfl
  simp only [Act.put, sZc, sZa, sZb]
  refine wpAnyB_takeP (i := 7) (some 4) (Op.assign (Operand.tmp 23)) 4 (v := ?_) ⟨_, rfl, rfl, rfl, rfl, rfl⟩ (by kernel_rfl) (by kernel_rfl) (by kernel_rfl) (by kernel_rfl) (fun _ _ _ h => h) (fun h => absurd (h.symm.trans (by kernel_rfl : _ = true)) (by decide)) (fun w' => ?_) ?_
  rotate_left
  · unfold bareOp
    go_simp
    try with_reducible rfl
  simp only [Act.put, sZc, sZa, sZb]
  refine wpAnyB_takeP (i := 8) (some 5) (Op.assign (Operand.tmp 24)) 32 (v := ?_) ⟨_, rfl, rfl, rfl, rfl, rfl⟩ (by kernel_rfl) (by kernel_rfl) (by kernel_rfl) (by kernel_rfl) (fun _ _ _ h => h) (fun h => absurd (h.symm.trans (by kernel_rfl : _ = true)) (by decide)) (fun w' => ?_) ?_
  rotate_left
  · unfold bareOp
    go_simp
    try with_reducible rfl
  simp only [Act.put, sZc, sZa, sZb]
  refine wpAnyB_done (by kernel_rfl) ?_ _
  go_wp2_with fail
  replace F_v := Lib.hid F_v.out.drew
  replace F_r := Lib.hid F_r.out.drew
  replace HBW := Lib.hid HBW.out.drew
  replace HB2 := Lib.hid HB2.out.drew
  have hS0 := And.intro F_v.out F_r.out
  refine wp_region_stage 8 (fun w' => Cl w' w2.heap.size [.slice V.a V.n V.c, .slice V.b V.m V.d, .bool V.one, .int .u64 V.z.r0, .int .u64 V.z.r1, .int .u64 V.z.s0, .int .u64 V.z.s1, .int .u64 V.z.c0, .int .u64 V.z.c1, .int .u64 V.z.z0, .int .u64 V.z.z1] ∧ Cl w' (w2.heap.size + 1) [.slice R.a R.n R.c, .slice R.b R.m R.d]) (by kernel_rfl) ?_
  refine wpAnyB_takeP (i := 1) (some 27) (Op.build 53 #[]) 53 (v := ?_) ⟨_, rfl, rfl, rfl, rfl, rfl⟩ (by kernel_rfl) (by kernel_rfl) (by kernel_rfl) (by kernel_rfl) (fun _ _ _ h => h) (fun _ => hS0) (fun w' => ?_) ?_
  rotate_left
  · unfold bareOp
    go_simp
    try with_reducible rfl
  simp only [Act.put, sZc, sZa, sZb]
  refine wpAnyB_take (i := 2) (some 28) (Op.load 29 (Operand.tmp 1)) 29 (v := ?_) ⟨_, rfl, rfl, rfl, rfl, rfl⟩ (by kernel_rfl) (by kernel_rfl) (by kernel_rfl) [3, 4, 5, 8] (by kernel_rfl) (fun _ _ _ h => h) hS0 (fun w' hSw => ?_) ?_
  rotate_left
  · obtain ⟨t1, t2⟩ := hSw; obtain ⟨⟨q0, q1, q2, q3, q4, q5, q6, q7, q8, q9, q10⟩, -⟩ := t1.k11; have r0 := t2.c 0 _ rfl; have r1 := t2.c 1 _ rfl
    unfold bareOp
    go_simp
    try with_reducible rfl
  simp only [Act.put, sZc, sZa, sZb]
  refine wpAnyB_cloud0 (fuel := 2) [(0, 26), (3, 29), (4, 25), (5, 30), (6, 31), (7, 6)] [4, 5, 6] (fun y w' => Cl w' w2.heap.size [.slice V.a V.n V.c, .slice V.b V.m V.d, .bool V.one, .int .u64 V.z.r0, .int .u64 V.z.r1, .int .u64 V.z.s0, .int .u64 V.z.s1, .int .u64 V.z.c0, .int .u64 V.z.c1, .int .u64 V.z.z0, .int .u64 V.z.z1] ∧ Cl w' (w2.heap.size + 1) [.slice R.a R.n R.c, .slice R.b R.m R.d] ∧ Below w.heap.size w w' ∧ Below w2.heap.size w2 w' ∧ (∀ v, y 0 = some v → v = .agg #[.int .u64 23, .int .u64 11, .int .u64 4]) ∧ (∀ v, y 3 = some v → ∃ a c, v = .tuple #[.agg #[.slice a 1 c, .slice none 0 0, .slice none 0 0], .int .i64 0]) ∧ (∀ v, y 4 = some v → ∃ a c, v = .tuple #[.agg #[.slice a 1 c, .slice none 0 0, .slice none 0 0], .int .i64 0]) ∧ (∀ v, y 5 = some v → ∃ a c, v = .agg #[.slice a 1 c, .slice none 0 0, .slice none 0 0]) ∧ (∀ v, y 6 = some v → v = .int .i64 0) ∧ (∀ v, y 7 = some v → ∃ B, v = .pointer (some ⟨B, 0, none⟩) ∧ (w2.heap.size < B ∧ w2.heap.size + 1 < B) ∧ Cl w' B [.slice none 0 0, .slice none 0 0, .slice none 0 0])) rfl (by decide) (by decide) (by kernel_rfl) (by kernel_rfl) (by kernel_rfl) (fun _ _ _ _ _ h => h) (fun y w' hI => And.intro hI.1 hI.2.1) ⟨F_v.out, F_r.out, HBW.out, HB2.out, fun v h => (by cases h), fun v h => (by cases h), fun v h => (by cases h), fun v h => (by cases h), fun v h => (by cases h), fun v h => (by cases h)⟩ ?_ ?_
  · intro p hp y w8 hyn hy hrd hI
    obtain ⟨hv, hr, hbw, hb2, hq0, hq3, hq4, hq5, hq6, hq7⟩ := hI
    simp only [List.mem_cons, List.not_mem_nil, or_false] at hp
    rcases hp with rfl | rfl | rfl | rfl | rfl | rfl
    · refine takeN (by kernel_rfl) (wpOp_bare (some 26) (Op.call { callee := Callee.value (Operand.func 28), args := #[], argTypes := #[] }) 49 ⟨_, rfl, rfl, rfl, rfl, rfl⟩ (fun K hK => ?_))
      refine wp_of_enter (run_call _ _ _ _ 28 Tryd.func28 (vs := #[]) ?hv rfl (by kernel_rfl) (by kernel_rfl)) (small36_any w8) ?_
      case hv =>
        simp only [List.map_toArray, List.map_cons, List.map_nil]
      rintro e w9 ⟨rfl, hb9⟩
      refine ⟨_, rfl, hK.out _ _ ⟨_, rfl, ?_⟩⟩
      refine ⟨hv.keep hb9, hr.keep hb9, hbw.trans (hb9.mono hbw.size), hb2.trans (hb9.mono hb2.size), ?_, ?_, ?_, ?_, ?_, ?_⟩
      · intro v hv; rw [updC_same] at hv; exact (Option.some.inj hv).symm
      · intro v hv; rw [updC_ne _ _ (by decide)] at hv; have h := hq3 v hv; exact h
      · intro v hv; rw [updC_ne _ _ (by decide)] at hv; have h := hq4 v hv; exact h
      · intro v hv; rw [updC_ne _ _ (by decide)] at hv; have h := hq5 v hv; exact h
      · intro v hv; rw [updC_ne _ _ (by decide)] at hv; have h := hq6 v hv; exact h
      · intro v hv; rw [updC_ne _ _ (by decide)] at hv; have h := hq7 v hv; obtain ⟨B, h1, h2, hL⟩ := h; exact ⟨B, h1, h2, hL.keep hb9⟩
    · refine takeN (by kernel_rfl) (wpOp_bare (some 29) (Op.call { callee := Callee.value (Operand.func 19), args := #[Operand.tmp 26, Operand.const (Value.int IntKind.u64 18), Operand.const (Value.int IntKind.i64 2), Operand.const (Value.bool true), Operand.tmp 27, Operand.tmp 28], argTypes := #[49, 24, 3, 4, 53, 29] }) 60 ⟨_, rfl, rfl, rfl, rfl, rfl⟩ (fun K hK => ?_))
      obtain ⟨v0, hv0⟩ := depC hy (j := 0) (d := 26) (by simp) hrd rfl (by kernel_rfl)
      obtain rfl := hq0 v0 hv0
      refine wp_of_enter (run_call _ _ _ _ 19 Tryd.func19 (vs := #[.agg #[.int .u64 23, .int .u64 11, .int .u64 4], .int .u64 18, .int .i64 2, .bool true, .agg #[.slice none 0 0, .slice none 0 0, .slice none 0 0], V.v]) ?hv rfl (by kernel_rfl) (by kernel_rfl)) (cast_s w8 (HT2.out.below hb2) (HV.out.keep hb2) HF.out.vn HF.out.vm HVP.out HF.out.vo) ?_
      case hv =>
        simp only [List.map_toArray, List.map_cons, List.map_nil]
        rw [eval_putC_not _ _ 27 (by decide), eval_putC_not _ _ 28 (by decide), eval_putC _ _ (j := 0) (d := 26) (by simp) (by decide) hv0 (of_decide_eq_true (by kernel_rfl))]
        rfl
      rintro e w9 ⟨⟨x0, x1, rfl⟩, hb9⟩
      refine ⟨_, rfl, hK.out _ _ ⟨_, rfl, ?_⟩⟩
      refine ⟨hv.keep hb9, hr.keep hb9, hbw.trans (hb9.mono hbw.size), hb2.trans (hb9.mono hb2.size), ?_, ?_, ?_, ?_, ?_, ?_⟩
      · intro v hv; rw [updC_ne _ _ (by decide)] at hv; have h := hq0 v hv; exact h
      · intro v hv; rw [updC_same] at hv; cases hv; exact ⟨_, _, rfl⟩
      · intro v hv; rw [updC_ne _ _ (by decide)] at hv; have h := hq4 v hv; exact h
      · intro v hv; rw [updC_ne _ _ (by decide)] at hv; have h := hq5 v hv; exact h
      · intro v hv; rw [updC_ne _ _ (by decide)] at hv; have h := hq6 v hv; exact h
      · intro v hv; rw [updC_ne _ _ (by decide)] at hv; have h := hq7 v hv; obtain ⟨B, h1, h2, hL⟩ := h; exact ⟨B, h1, h2, hL.keep hb9⟩
    · refine takeF (by kernel_rfl) ?_
      obtain ⟨v3, hv3⟩ := depC hy (j := 3) (d := 29) (by simp) hrd rfl (by kernel_rfl)
      obtain ⟨x0, x1, rfl⟩ := hq3 v3 hv3
      refine yields_bare _ _ ⟨_, rfl, rfl, rfl, rfl, rfl⟩ (fun w => run_move _ w _ _ _ (eval_putC _ _ (j := 3) (d := 29) (by simp) (by decide) hv3 (of_decide_eq_true (by kernel_rfl)))) ?_
      refine ⟨hv, hr, hbw, hb2, ?_, ?_, ?_, ?_, ?_, ?_⟩
      · intro v hv; rw [updC_ne _ _ (by decide)] at hv; have h := hq0 v hv; exact h
      · intro v hv; rw [updC_ne _ _ (by decide)] at hv; have h := hq3 v hv; exact h
      · intro v hv; rw [updC_same] at hv; cases hv; exact ⟨_, _, rfl⟩
      · intro v hv; rw [updC_ne _ _ (by decide)] at hv; have h := hq5 v hv; exact h
      · intro v hv; rw [updC_ne _ _ (by decide)] at hv; have h := hq6 v hv; exact h
      · intro v hv; rw [updC_ne _ _ (by decide)] at hv; have h := hq7 v hv; exact h
    · refine takeF (by kernel_rfl) ?_
      obtain ⟨v4, hv4⟩ := depC hy (j := 4) (d := 25) (by simp) hrd rfl (by kernel_rfl)
      obtain ⟨x0, x1, rfl⟩ := hq4 v4 hv4
      refine yields_bare _ _ ⟨_, rfl, rfl, rfl, rfl, rfl⟩ (fun w => run_extract _ w _ _ _ 0 (eval_putC _ _ (j := 4) (d := 25) (by simp) (by decide) hv4 (of_decide_eq_true (by kernel_rfl))) rfl) ?_
      refine ⟨hv, hr, hbw, hb2, ?_, ?_, ?_, ?_, ?_, ?_⟩
      · intro v hv; rw [updC_ne _ _ (by decide)] at hv; have h := hq0 v hv; exact h
      · intro v hv; rw [updC_ne _ _ (by decide)] at hv; have h := hq3 v hv; exact h
      · intro v hv; rw [updC_ne _ _ (by decide)] at hv; have h := hq4 v hv; exact h
      · intro v hv; rw [updC_same] at hv; cases hv; exact ⟨_, _, rfl⟩
      · intro v hv; rw [updC_ne _ _ (by decide)] at hv; have h := hq6 v hv; exact h
      · intro v hv; rw [updC_ne _ _ (by decide)] at hv; have h := hq7 v hv; exact h
    · refine takeF (by kernel_rfl) ?_
      obtain ⟨v4, hv4⟩ := depC hy (j := 4) (d := 25) (by simp) hrd rfl (by kernel_rfl)
      obtain ⟨x0, x1, rfl⟩ := hq4 v4 hv4
      refine yields_bare _ _ ⟨_, rfl, rfl, rfl, rfl, rfl⟩ (fun w => run_extract _ w _ _ _ 1 (eval_putC _ _ (j := 4) (d := 25) (by simp) (by decide) hv4 (of_decide_eq_true (by kernel_rfl))) rfl) ?_
      refine ⟨hv, hr, hbw, hb2, ?_, ?_, ?_, ?_, ?_, ?_⟩
      · intro v hv; rw [updC_ne _ _ (by decide)] at hv; have h := hq0 v hv; exact h
      · intro v hv; rw [updC_ne _ _ (by decide)] at hv; have h := hq3 v hv; exact h
      · intro v hv; rw [updC_ne _ _ (by decide)] at hv; have h := hq4 v hv; exact h
      · intro v hv; rw [updC_ne _ _ (by decide)] at hv; have h := hq5 v hv; exact h
      · intro v hv; rw [updC_same] at hv; exact (Option.some.inj hv).symm
      · intro v hv; rw [updC_ne _ _ (by decide)] at hv; have h := hq7 v hv; exact h
    · refine takeN (by kernel_rfl) (wpOp_bare (some 6) (Op.alloc 53) 0 ⟨_, rfl, rfl, rfl, rfl, rfl⟩ (fun K hK => ?_))
      refine wp_of_run (run_al_booth _ _ _ _) (hK.out _ _ ⟨_, rfl, ?_⟩)
      refine ⟨hv.alloc _, hr.alloc _, hbw.alloc hbw.size _, hb2.alloc hb2.size _, ?_, ?_, ?_, ?_, ?_, ?_⟩
      · intro v hv; rw [updC_ne _ _ (by decide)] at hv; have h := hq0 v hv; exact h
      · intro v hv; rw [updC_ne _ _ (by decide)] at hv; have h := hq3 v hv; exact h
      · intro v hv; rw [updC_ne _ _ (by decide)] at hv; have h := hq4 v hv; exact h
      · intro v hv; rw [updC_ne _ _ (by decide)] at hv; have h := hq5 v hv; exact h
      · intro v hv; rw [updC_ne _ _ (by decide)] at hv; have h := hq6 v hv; exact h
      · intro v hv; rw [updC_same] at hv; cases hv; exact ⟨w8.heap.size, rfl, ⟨hv.lt, hr.lt⟩, Cl.at w8 [.slice none 0 0, .slice none 0 0, .slice none 0 0] _ _ rfl⟩
  intro y w9 hall hI
  obtain ⟨hv, hr, hbw, hb2, hq0, hq3, hq4, hq5, hq6, hq7⟩ := hI
  obtain ⟨v0, hv0⟩ := Option.isSome_iff_exists.1 (hall (0, 26) (by simp))
  obtain ⟨v3, hv3⟩ := Option.isSome_iff_exists.1 (hall (3, 29) (by simp))
  obtain ⟨v4, hv4⟩ := Option.isSome_iff_exists.1 (hall (4, 25) (by simp))
  obtain ⟨v5, hv5⟩ := Option.isSome_iff_exists.1 (hall (5, 30) (by simp))
  obtain ⟨v6, hv6⟩ := Option.isSome_iff_exists.1 (hall (6, 31) (by simp))
  obtain ⟨v7, hv7⟩ := Option.isSome_iff_exists.1 (hall (7, 6) (by simp))
  clear hall
  obtain rfl := hq0 v0 hv0
  obtain ⟨z0, z1, rfl⟩ := hq3 v3 hv3
  obtain ⟨zz0, zz1, rfl⟩ := hq4 v4 hv4
  obtain ⟨a3, c3, rfl⟩ := hq5 v5 hv5
  obtain rfl := hq6 v6 hv6
  obtain ⟨Bb, rfl, hltb, hLb⟩ := hq7 v7 hv7
  replace F_v := Lib.hid hv
  replace F_r := Lib.hid hr
  have F_b := Lib.hid hLb
  replace HBW := Lib.hid hbw
  replace HB2 := Lib.hid hb2
  have hS0 := And.intro hv hr
  clear hv hr hbw hb2 hq0 hq3 hq4 hq5 hq6 hq7 hLb
  simp only [putC, setAll, Act.put, sZc, sZa, sZb, Option.getD_some, hv0, hv3, hv4, hv5, hv6, hv7]
  clear hv0 hv3 hv4 hv5 hv6 hv7
  refine wpAnyB_only (i := 8) none (Op.store 53 (Operand.tmp 6) (Operand.tmp 30)) 0 ⟨_, rfl, rfl, rfl, rfl, rfl⟩ (by kernel_rfl) (fun K hK => ?_)
  unfold bareOp
  refine wp_storeCl 53 (.tmp 6) (.tmp 30) Bb 0 [.slice none 0 0, .slice none 0 0, .slice none 0 0] [.slice a3 1 c3, .slice none 0 0, .slice none 0 0] [.slice a3 1 c3, .slice none 0 0, .slice none 0 0] rfl rfl rfl (by kernel_rfl) (by intro u hu; simp at hu; rcases hu with rfl | rfl | rfl <;> rfl) F_b.out (by simp) rfl ?_
  intro w5 hca hga hza
  have hb2s := HB2.out.size
  have hbws := HBW.out.size
  have hw22 := HW2.out
  replace F_b := Lib.hid hca
  replace F_v := Lib.hid (F_v.out.gro hga (by omega))
  replace F_r := Lib.hid (F_r.out.gro hga (by omega))
  replace HBW := Lib.hid (HBW.out.trans (hga.blw (n := w.heap.size) (by omega) hbws))
  replace HB2 := Lib.hid (HB2.out.trans (hga.blw (n := w2.heap.size) (by omega) hb2s))
  clear hca hga hza hS0 hb2s hbws
  refine hK.out _ _ (fun h => absurd (h.symm.trans (by kernel_rfl : _ = true)) (by decide)) ?_
  clear hK K
  try simp only [Act.put, sZc, sZa, sZb]
  refine wpAnyB_takeP (i := 9) (some 7) (Op.assign (Operand.tmp 31)) 32 (v := ?_) ⟨_, rfl, rfl, rfl, rfl, rfl⟩ (by kernel_rfl) (by kernel_rfl) (by kernel_rfl) (by kernel_rfl) (fun _ _ _ h => h) (fun h => absurd (h.symm.trans (by kernel_rfl : _ = true)) (by decide)) (fun w' => ?_) ?_
  rotate_left
  · unfold bareOp
    go_simp
    try with_reducible rfl
  simp only [Act.put, sZc, sZa, sZb]
  refine wpAnyB_done (by kernel_rfl) ?_ _
  go_wp2_with fail
  replace F_v := Lib.hid F_v.out.drew
  replace F_r := Lib.hid F_r.out.drew
  replace F_b := Lib.hid F_b.out.drew
  replace HBW := Lib.hid HBW.out.drew
  replace HB2 := Lib.hid HB2.out.drew
  have hS0 := And.intro F_v.out F_r.out
  refine wp_region_stage 9 (fun w' => Cl w' w2.heap.size [.slice V.a V.n V.c, .slice V.b V.m V.d, .bool V.one, .int .u64 V.z.r0, .int .u64 V.z.r1, .int .u64 V.z.s0, .int .u64 V.z.s1, .int .u64 V.z.c0, .int .u64 V.z.c1, .int .u64 V.z.z0, .int .u64 V.z.z1] ∧ Cl w' (w2.heap.size + 1) [.slice R.a R.n R.c, .slice R.b R.m R.d]) (by kernel_rfl) ?_
  refine wpAnyB_takeP (i := 1) (some 34) (Op.build 53 #[]) 53 (v := ?_) ⟨_, rfl, rfl, rfl, rfl, rfl⟩ (by kernel_rfl) (by kernel_rfl) (by kernel_rfl) (by kernel_rfl) (fun _ _ _ h => h) (fun _ => hS0) (fun w' => ?_) ?_
  rotate_left
  · unfold bareOp
    go_simp
    try with_reducible rfl
  simp only [Act.put, sZc, sZa, sZb]
  refine wpAnyB_take (i := 2) (some 35) (Op.load 29 (Operand.tmp 1)) 29 (v := ?_) ⟨_, rfl, rfl, rfl, rfl, rfl⟩ (by kernel_rfl) (by kernel_rfl) (by kernel_rfl) [4, 5, 6, 9] (by kernel_rfl) (fun _ _ _ h => h) hS0 (fun w' hSw => ?_) ?_
  rotate_left
  · obtain ⟨t1, t2⟩ := hSw; obtain ⟨⟨q0, q1, q2, q3, q4, q5, q6, q7, q8, q9, q10⟩, -⟩ := t1.k11; have r0 := t2.c 0 _ rfl; have r1 := t2.c 1 _ rfl
    unfold bareOp
    go_simp
    try with_reducible rfl
  simp only [Act.put, sZc, sZa, sZb]
  refine wpAnyB_take (i := 3) (some 36) (Op.load 57 (Operand.tmp 2)) 57 (v := ?_) ⟨_, rfl, rfl, rfl, rfl, rfl⟩ (by kernel_rfl) (by kernel_rfl) (by kernel_rfl) [4, 5, 6, 9] (by kernel_rfl) (fun _ _ _ h => h) hS0 (fun w' hSw => ?_) ?_
  rotate_left
  · obtain ⟨t1, t2⟩ := hSw; obtain ⟨⟨q0, q1, q2, q3, q4, q5, q6, q7, q8, q9, q10⟩, -⟩ := t1.k11; have r0 := t2.c 0 _ rfl; have r1 := t2.c 1 _ rfl
    unfold bareOp
    go_simp
    try with_reducible rfl
  simp only [Act.put, sZc, sZa, sZb]
  refine wpAnyB_cloud0 (fuel := 2) [(0, 33), (4, 37), (5, 32), (6, 38), (7, 39), (8, 8)] [5, 6, 7] (fun y w' => Cl w' w2.heap.size [.slice V.a V.n V.c, .slice V.b V.m V.d, .bool V.one, .int .u64 V.z.r0, .int .u64 V.z.r1, .int .u64 V.z.s0, .int .u64 V.z.s1, .int .u64 V.z.c0, .int .u64 V.z.c1, .int .u64 V.z.z0, .int .u64 V.z.z1] ∧ Cl w' (w2.heap.size + 1) [.slice R.a R.n R.c, .slice R.b R.m R.d] ∧ Cl w' Bb [.slice a3 1 c3, .slice none 0 0, .slice none 0 0] ∧ Below w.heap.size w w' ∧ Below w2.heap.size w2 w' ∧ (∀ v, y 0 = some v → v = .agg #[.int .u64 23, .int .u64 11, .int .u64 4]) ∧ (∀ v, y 4 = some v → ∃ a c a' c', v = .tuple #[.agg #[.slice none 0 0, .slice a 1 c, .slice a' 1 c'], .int .i64 0]) ∧ (∀ v, y 5 = some v → ∃ a c a' c', v = .tuple #[.agg #[.slice none 0 0, .slice a 1 c, .slice a' 1 c'], .int .i64 0]) ∧ (∀ v, y 6 = some v → ∃ a c a' c', v = .agg #[.slice none 0 0, .slice a 1 c, .slice a' 1 c']) ∧ (∀ v, y 7 = some v → v = .int .i64 0) ∧ (∀ v, y 8 = some v → ∃ B, v = .pointer (some ⟨B, 0, none⟩) ∧ (w2.heap.size < B ∧ w2.heap.size + 1 < B ∧ Bb < B) ∧ Cl w' B [.slice none 0 0, .slice none 0 0, .slice none 0 0])) rfl (by decide) (by decide) (by kernel_rfl) (by kernel_rfl) (by kernel_rfl) (fun _ _ _ _ _ h => h) (fun y w' hI => And.intro hI.1 hI.2.1) ⟨F_v.out, F_r.out, F_b.out, HBW.out, HB2.out, fun v h => (by cases h), fun v h => (by cases h), fun v h => (by cases h), fun v h => (by cases h), fun v h => (by cases h), fun v h => (by cases h)⟩ ?_ ?_
  · intro p hp y w8 hyn hy hrd hI
    obtain ⟨hv, hr, hb, hbw, hb2, hq0, hq4, hq5, hq6, hq7, hq8⟩ := hI
    simp only [List.mem_cons, List.not_mem_nil, or_false] at hp
    rcases hp with rfl | rfl | rfl | rfl | rfl | rfl
    · refine takeN (by kernel_rfl) (wpOp_bare (some 33) (Op.call { callee := Callee.value (Operand.func 28), args := #[], argTypes := #[] }) 49 ⟨_, rfl, rfl, rfl, rfl, rfl⟩ (fun K hK => ?_))
      refine wp_of_enter (run_call _ _ _ _ 28 Tryd.func28 (vs := #[]) ?hv rfl (by kernel_rfl) (by kernel_rfl)) (small36_any w8) ?_
      case hv =>
        simp only [List.map_toArray, List.map_cons, List.map_nil]
      rintro e w9 ⟨rfl, hb9⟩
      refine ⟨_, rfl, hK.out _ _ ⟨_, rfl, ?_⟩⟩
      refine ⟨hv.keep hb9, hr.keep hb9, hb.keep hb9, hbw.trans (hb9.mono hbw.size), hb2.trans (hb9.mono hb2.size), ?_, ?_, ?_, ?_, ?_, ?_⟩
      · intro v hv; rw [updC_same] at hv; exact (Option.some.inj hv).symm
      · intro v hv; rw [updC_ne _ _ (by decide)] at hv; have h := hq4 v hv; exact h
      · intro v hv; rw [updC_ne _ _ (by decide)] at hv; have h := hq5 v hv; exact h
      · intro v hv; rw [updC_ne _ _ (by decide)] at hv; have h := hq6 v hv; exact h
      · intro v hv; rw [updC_ne _ _ (by decide)] at hv; have h := hq7 v hv; exact h
      · intro v hv; rw [updC_ne _ _ (by decide)] at hv; have h := hq8 v hv; obtain ⟨B, h1, h2, hL⟩ := h; exact ⟨B, h1, h2, hL.keep hb9⟩
    · refine takeN (by kernel_rfl) (wpOp_bare (some 37) (Op.call { callee := Callee.value (Operand.func 20), args := #[Operand.tmp 33, Operand.const (Value.int IntKind.u64 18), Operand.const (Value.int IntKind.i64 2), Operand.const (Value.bool true), Operand.tmp 34, Operand.tmp 35, Operand.tmp 36], argTypes := #[49, 24, 3, 4, 53, 29, 57] }) 60 ⟨_, rfl, rfl, rfl, rfl, rfl⟩ (fun K hK => ?_))
      obtain ⟨v0, hv0⟩ := depC hy (j := 0) (d := 33) (by simp) hrd rfl (by kernel_rfl)
      obtain rfl := hq0 v0 hv0
      refine wp_of_enter (run_call _ _ _ _ 20 Tryd.func20 (vs := #[.agg #[.int .u64 23, .int .u64 11, .int .u64 4], .int .u64 18, .int .i64 2, .bool true, .agg #[.slice none 0 0, .slice none 0 0, .slice none 0 0], V.v, R.v]) ?hv rfl (by kernel_rfl) (by kernel_rfl)) (chal_s w8 (HT2.out.below hb2) (HV.out.keep hb2) (HR.out.keep hb2) HF.out.vn HF.out.vm (by rw [HF.out.rn]; decide) HF.out.rm HVP.out HF.out.vo HRG.out HMT.out) ?_
      case hv =>
        simp only [List.map_toArray, List.map_cons, List.map_nil]
        rw [eval_putC_not _ _ 34 (by decide), eval_putC_not _ _ 35 (by decide), eval_putC_not _ _ 36 (by decide), eval_putC _ _ (j := 0) (d := 33) (by simp) (by decide) hv0 (of_decide_eq_true (by kernel_rfl))]
        rfl
      rintro e w9 ⟨⟨x0, x1, x2, x3, rfl⟩, hb9⟩
      refine ⟨_, rfl, hK.out _ _ ⟨_, rfl, ?_⟩⟩
      refine ⟨hv.keep hb9, hr.keep hb9, hb.keep hb9, hbw.trans (hb9.mono hbw.size), hb2.trans (hb9.mono hb2.size), ?_, ?_, ?_, ?_, ?_, ?_⟩
      · intro v hv; rw [updC_ne _ _ (by decide)] at hv; have h := hq0 v hv; exact h
      · intro v hv; rw [updC_same] at hv; cases hv; exact ⟨_, _, _, _, rfl⟩
      · intro v hv; rw [updC_ne _ _ (by decide)] at hv; have h := hq5 v hv; exact h
      · intro v hv; rw [updC_ne _ _ (by decide)] at hv; have h := hq6 v hv; exact h
      · intro v hv; rw [updC_ne _ _ (by decide)] at hv; have h := hq7 v hv; exact h
      · intro v hv; rw [updC_ne _ _ (by decide)] at hv; have h := hq8 v hv; obtain ⟨B, h1, h2, hL⟩ := h; exact ⟨B, h1, h2, hL.keep hb9⟩
    · refine takeF (by kernel_rfl) ?_
      obtain ⟨v4, hv4⟩ := depC hy (j := 4) (d := 37) (by simp) hrd rfl (by kernel_rfl)
      obtain ⟨x0, x1, x2, x3, rfl⟩ := hq4 v4 hv4
      refine yields_bare _ _ ⟨_, rfl, rfl, rfl, rfl, rfl⟩ (fun w => run_move _ w _ _ _ (eval_putC _ _ (j := 4) (d := 37) (by simp) (by decide) hv4 (of_decide_eq_true (by kernel_rfl)))) ?_
      refine ⟨hv, hr, hb, hbw, hb2, ?_, ?_, ?_, ?_, ?_, ?_⟩
      · intro v hv; rw [updC_ne _ _ (by decide)] at hv; have h := hq0 v hv; exact h
      · intro v hv; rw [updC_ne _ _ (by decide)] at hv; have h := hq4 v hv; exact h
      · intro v hv; rw [updC_same] at hv; cases hv; exact ⟨_, _, _, _, rfl⟩
      · intro v hv; rw [updC_ne _ _ (by decide)] at hv; have h := hq6 v hv; exact h
      · intro v hv; rw [updC_ne _ _ (by decide)] at hv; have h := hq7 v hv; exact h
      · intro v hv; rw [updC_ne _ _ (by decide)] at hv; have h := hq8 v hv; exact h
    · refine takeF (by kernel_rfl) ?_
      obtain ⟨v5, hv5⟩ := depC hy (j := 5) (d := 32) (by simp) hrd rfl (by kernel_rfl)
      obtain ⟨x0, x1, x2, x3, rfl⟩ := hq5 v5 hv5
      refine yields_bare _ _ ⟨_, rfl, rfl, rfl, rfl, rfl⟩ (fun w => run_extract _ w _ _ _ 0 (eval_putC _ _ (j := 5) (d := 32) (by simp) (by decide) hv5 (of_decide_eq_true (by kernel_rfl))) rfl) ?_
      refine ⟨hv, hr, hb, hbw, hb2, ?_, ?_, ?_, ?_, ?_, ?_⟩
      · intro v hv; rw [updC_ne _ _ (by decide)] at hv; have h := hq0 v hv; exact h
      · intro v hv; rw [updC_ne _ _ (by decide)] at hv; have h := hq4 v hv; exact h
      · intro v hv; rw [updC_ne _ _ (by decide)] at hv; have h := hq5 v hv; exact h
      · intro v hv; rw [updC_same] at hv; cases hv; exact ⟨_, _, _, _, rfl⟩
      · intro v hv; rw [updC_ne _ _ (by decide)] at hv; have h := hq7 v hv; exact h
      · intro v hv; rw [updC_ne _ _ (by decide)] at hv; have h := hq8 v hv; exact h
    · refine takeF (by kernel_rfl) ?_
      obtain ⟨v5, hv5⟩ := depC hy (j := 5) (d := 32) (by simp) hrd rfl (by kernel_rfl)
      obtain ⟨x0, x1, x2, x3, rfl⟩ := hq5 v5 hv5
      refine yields_bare _ _ ⟨_, rfl, rfl, rfl, rfl, rfl⟩ (fun w => run_extract _ w _ _ _ 1 (eval_putC _ _ (j := 5) (d := 32) (by simp) (by decide) hv5 (of_decide_eq_true (by kernel_rfl))) rfl) ?_
      refine ⟨hv, hr, hb, hbw, hb2, ?_, ?_, ?_, ?_, ?_, ?_⟩
      · intro v hv; rw [updC_ne _ _ (by decide)] at hv; have h := hq0 v hv; exact h
      · intro v hv; rw [updC_ne _ _ (by decide)] at hv; have h := hq4 v hv; exact h
      · intro v hv; rw [updC_ne _ _ (by decide)] at hv; have h := hq5 v hv; exact h
      · intro v hv; rw [updC_ne _ _ (by decide)] at hv; have h := hq6 v hv; exact h
      · intro v hv; rw [updC_same] at hv; exact (Option.some.inj hv).symm
      · intro v hv; rw [updC_ne _ _ (by decide)] at hv; have h := hq8 v hv; exact h
    · refine takeN (by kernel_rfl) (wpOp_bare (some 8) (Op.alloc 53) 0 ⟨_, rfl, rfl, rfl, rfl, rfl⟩ (fun K hK => ?_))
      refine wp_of_run (run_al_booth _ _ _ _) (hK.out _ _ ⟨_, rfl, ?_⟩)
      refine ⟨hv.alloc _, hr.alloc _, hb.alloc _, hbw.alloc hbw.size _, hb2.alloc hb2.size _, ?_, ?_, ?_, ?_, ?_, ?_⟩
      · intro v hv; rw [updC_ne _ _ (by decide)] at hv; have h := hq0 v hv; exact h
      · intro v hv; rw [updC_ne _ _ (by decide)] at hv; have h := hq4 v hv; exact h
      · intro v hv; rw [updC_ne _ _ (by decide)] at hv; have h := hq5 v hv; exact h
      · intro v hv; rw [updC_ne _ _ (by decide)] at hv; have h := hq6 v hv; exact h
      · intro v hv; rw [updC_ne _ _ (by decide)] at hv; have h := hq7 v hv; exact h
      · intro v hv; rw [updC_same] at hv; cases hv; exact ⟨w8.heap.size, rfl, ⟨hv.lt, hr.lt, hb.lt⟩, Cl.at w8 [.slice none 0 0, .slice none 0 0, .slice none 0 0] _ _ rfl⟩
  intro y w9 hall hI
  obtain ⟨hv, hr, hb, hbw, hb2, hq0, hq4, hq5, hq6, hq7, hq8⟩ := hI
  obtain ⟨v0, hv0⟩ := Option.isSome_iff_exists.1 (hall (0, 33) (by simp))
  obtain ⟨v4, hv4⟩ := Option.isSome_iff_exists.1 (hall (4, 37) (by simp))
  obtain ⟨v5, hv5⟩ := Option.isSome_iff_exists.1 (hall (5, 32) (by simp))
  obtain ⟨v6, hv6⟩ := Option.isSome_iff_exists.1 (hall (6, 38) (by simp))
  obtain ⟨v7, hv7⟩ := Option.isSome_iff_exists.1 (hall (7, 39) (by simp))
  obtain ⟨v8, hv8⟩ := Option.isSome_iff_exists.1 (hall (8, 8) (by simp))
  clear hall
  obtain rfl := hq0 v0 hv0
  obtain ⟨z0, z1, z2, z3, rfl⟩ := hq4 v4 hv4
  obtain ⟨zz0, zz1, zz2, zz3, rfl⟩ := hq5 v5 hv5
  obtain ⟨a4, c4, a5, c5, rfl⟩ := hq6 v6 hv6
  obtain rfl := hq7 v7 hv7
  obtain ⟨Bc, rfl, hltc, hLc⟩ := hq8 v8 hv8
  replace F_v := Lib.hid hv
  replace F_r := Lib.hid hr
  replace F_b := Lib.hid hb
  have F_c := Lib.hid hLc
  replace HBW := Lib.hid hbw
  replace HB2 := Lib.hid hb2
  have hS0 := And.intro hv hr
  clear hv hr hb hbw hb2 hq0 hq4 hq5 hq6 hq7 hq8 hLc
  simp only [putC, setAll, Act.put, sZc, sZa, sZb, Option.getD_some, hv0, hv4, hv5, hv6, hv7, hv8]
  clear hv0 hv4 hv5 hv6 hv7 hv8
  refine wpAnyB_only (i := 9) none (Op.store 53 (Operand.tmp 8) (Operand.tmp 38)) 0 ⟨_, rfl, rfl, rfl, rfl, rfl⟩ (by kernel_rfl) (fun K hK => ?_)
  unfold bareOp
  refine wp_storeCl 53 (.tmp 8) (.tmp 38) Bc 0 [.slice none 0 0, .slice none 0 0, .slice none 0 0] [.slice none 0 0, .slice a4 1 c4, .slice a5 1 c5] [.slice none 0 0, .slice a4 1 c4, .slice a5 1 c5] rfl rfl rfl (by kernel_rfl) (by intro u hu; simp at hu; rcases hu with rfl | rfl | rfl <;> rfl) F_c.out (by simp) rfl ?_
  intro w6 hca hga hza
  have hb2s := HB2.out.size
  have hbws := HBW.out.size
  have hw22 := HW2.out
  replace F_c := Lib.hid hca
  replace F_v := Lib.hid (F_v.out.gro hga (by omega))
  replace F_r := Lib.hid (F_r.out.gro hga (by omega))
  replace F_b := Lib.hid (F_b.out.gro hga (by omega))
  replace HBW := Lib.hid (HBW.out.trans (hga.blw (n := w.heap.size) (by omega) hbws))
  replace HB2 := Lib.hid (HB2.out.trans (hga.blw (n := w2.heap.size) (by omega) hb2s))
  clear hca hga hza hS0 hb2s hbws
  refine hK.out _ _ (fun h => absurd (h.symm.trans (by kernel_rfl : _ = true)) (by decide)) ?_
  clear hK K
  try simp only [Act.put, sZc, sZa, sZb]
  refine wpAnyB_takeP (i := 10) (some 9) (Op.assign (Operand.tmp 39)) 32 (v := ?_) ⟨_, rfl, rfl, rfl, rfl, rfl⟩ (by kernel_rfl) (by kernel_rfl) (by kernel_rfl) (by kernel_rfl) (fun _ _ _ h => h) (fun h => absurd (h.symm.trans (by kernel_rfl : _ = true)) (by decide)) (fun w' => ?_) ?_
  rotate_left
  · unfold bareOp
    go_simp
    try with_reducible rfl
  simp only [Act.put, sZc, sZa, sZb]
  refine wpAnyB_done (by kernel_rfl) ?_ _
  go_wp2_with fail
  have hvn2 : ((V.n : Int) == 2) = true := by rw [HF.out.vn]; rfl
  replace F_v := Lib.hid F_v.out.drew
  replace F_b := Lib.hid F_b.out.drew
  replace F_c := Lib.hid F_c.out.drew
  replace HBW := Lib.hid HBW.out.drew
  replace HB2 := Lib.hid HB2.out.drew
  have hS0 := And.intro F_v.out (And.intro F_b.out F_c.out)
  refine wp_region_stage 41 (fun w' => Cl w' w2.heap.size [.slice V.a V.n V.c, .slice V.b V.m V.d, .bool V.one, .int .u64 V.z.r0, .int .u64 V.z.r1, .int .u64 V.z.s0, .int .u64 V.z.s1, .int .u64 V.z.c0, .int .u64 V.z.c1, .int .u64 V.z.z0, .int .u64 V.z.z1] ∧ Cl w' Bb [.slice a3 1 c3, .slice none 0 0, .slice none 0 0] ∧ Cl w' Bc [.slice none 0 0, .slice a4 1 c4, .slice a5 1 c5]) (by kernel_rfl) ?_
  refine wpAnyB_takeP (i := 0) (some 40) (Op.move (Operand.tmp 3)) 32 (v := ?_) ⟨_, rfl, rfl, rfl, rfl, rfl⟩ (by kernel_rfl) (by kernel_rfl) (by kernel_rfl) (by kernel_rfl) (fun _ _ _ h => h) (fun _ => hS0) (fun w' => ?_) ?_
  rotate_left
  · unfold bareOp
    go_simp
    try with_reducible rfl
  simp only [Act.put, sZc, sZa, sZb]
  refine wpAnyB_takeP (i := 1) (some 41) (Op.binOp BinOp.eql 32 (Operand.tmp 40) (Operand.const (Value.int IntKind.i64 0)) 32) 4 (v := ?_) ⟨_, rfl, rfl, rfl, rfl, rfl⟩ (by kernel_rfl) (by kernel_rfl) (by kernel_rfl) (by kernel_rfl) (fun _ _ _ h => h) (fun _ => hS0) (fun w' => ?_) ?_
  rotate_left
  · unfold bareOp
    go_simp
    try with_reducible rfl
  simp only [Act.put, sZc, sZa, sZb]
  refine wpAnyB_takeP (i := 2) (some 42) (Op.move (Operand.tmp 41)) 4 (v := ?_) ⟨_, rfl, rfl, rfl, rfl, rfl⟩ (by kernel_rfl) (by kernel_rfl) (by kernel_rfl) (by kernel_rfl) (fun _ _ _ h => h) (fun _ => hS0) (fun w' => ?_) ?_
  rotate_left
  · unfold bareOp
    go_simp
    try with_reducible rfl
  simp only [Act.put, sZc, sZa, sZb]
  refine wpAnyB_takeG (i := 4) (some 44) (Op.load 29 (Operand.tmp 1)) 29 (some (2, true)) (v := ?_) ⟨_, rfl, rfl, rfl, rfl, rfl⟩ rfl (by kernel_rfl) (by kernel_rfl) (by kernel_rfl) [5, 6, 7, 8, 9, 10, 11, 12, 13, 14, 15, 16, 17, 18, 19, 20, 21, 22, 23, 24, 25, 26, 27, 28, 29, 30, 31, 32, 33, 34, 35, 36, 37, 38, 39, 40, 41] (by kernel_rfl) (fun _ _ _ h => h) hS0 (fun w' hSw => ?_) ?_
  rotate_left
  · obtain ⟨t1, t2, t3⟩ := hSw; obtain ⟨⟨q0, q1, q2, q3, q4, q5, q6, q7, q8, q9, q10⟩, -⟩ := t1.k11; have r0 := t2.c 0 _ rfl; have r1 := t3.c 1 _ rfl
    unfold bareOp
    go_simp
    try with_reducible rfl
  simp only [Act.put, sZc, sZa, sZb]
  refine wpAnyB_onlyG (i := 3) (some 43) (Op.call { callee := Callee.value (Operand.func 28), args := #[], argTypes := #[] }) 49 (some (2, true)) ⟨_, rfl, rfl, rfl, rfl, rfl⟩ (by kernel_rfl) rfl (fun K hK => ?_)
  unfold bareOp
  refine OpW.out (wp_of_enter (run_call _ _ _ _ 28 Tryd.func28 (vs := #[]) (by simp only [List.map_toArray, List.map_nil]) rfl (by kernel_rfl) (by kernel_rfl)) (small36_any _) ?_)
  rintro e w7 ⟨rfl, hb7⟩
  refine ⟨_, rfl, ?_⟩
  replace F_v := Lib.hid (F_v.out.keep hb7)
  replace F_b := Lib.hid (F_b.out.keep hb7)
  replace F_c := Lib.hid (F_c.out.keep hb7)
  replace HBW := Lib.hid (HBW.out.trans (hb7.mono HBW.out.size))
  replace HB2 := Lib.hid (HB2.out.trans (hb7.mono HB2.out.size))
  clear hb7 hS0
  have hS0 := And.intro F_v.out (And.intro F_b.out F_c.out)
  refine hK.out _ _ (fun _ => hS0) ?_
  clear hK K
  try simp only [Act.put, sZc, sZa, sZb]
  refine wpAnyB_onlyG (i := 5) (some 45) (Op.call { callee := Callee.value (Operand.func 27), args := #[Operand.tmp 43, Operand.const (Value.int IntKind.u64 18), Operand.const (Value.int IntKind.i64 2), Operand.tmp 44], argTypes := #[49, 24, 3, 29] }) 32 (some (2, true)) ⟨_, rfl, rfl, rfl, rfl, rfl⟩ (by kernel_rfl) rfl (fun K hK => ?_)
  unfold bareOp
  refine OpW.out (wp_of_enter (run_call _ _ _ _ 27 Tryd.func27 (vs := #[.agg #[.int .u64 23, .int .u64 11, .int .u64 4], .int .u64 18, .int .i64 2, V.v]) (by simp only [List.map_toArray, List.map_cons, List.map_nil]; rfl) rfl (by kernel_rfl) (by kernel_rfl)) (check_s _ (HT2.out.below HB2.out) (HV.out.keep HB2.out) HVP.out) ?_)
  rintro e w10 ⟨rfl, hb10⟩
  refine ⟨_, rfl, ?_⟩
  replace F_v := Lib.hid (F_v.out.keep hb10)
  replace F_b := Lib.hid (F_b.out.keep hb10)
  replace F_c := Lib.hid (F_c.out.keep hb10)
  replace HBW := Lib.hid (HBW.out.trans (hb10.mono HBW.out.size))
  replace HB2 := Lib.hid (HB2.out.trans (hb10.mono HB2.out.size))
  clear hb10 hS0
  have hS0 := And.intro F_v.out (And.intro F_b.out F_c.out)
  refine hK.out _ _ (fun _ => hS0) ?_
  clear hK K
  try simp only [Act.put, sZc, sZa, sZb]
  refine wpAnyB_takePG (i := 6) (some 46) (Op.binOp BinOp.eql 32 (Operand.tmp 45) (Operand.const (Value.int IntKind.i64 0)) 32) 4 (some (2, true)) (v := ?_) ⟨_, rfl, rfl, rfl, rfl, rfl⟩ rfl (by kernel_rfl) (by kernel_rfl) (by kernel_rfl) (by kernel_rfl) (fun _ _ _ h => h) (fun _ => hS0) (fun w' => ?_) ?_
  rotate_left
  · unfold bareOp
    go_simp
    try with_reducible rfl
  simp only [Act.put, sZc, sZa, sZb]
  refine wpAnyB_takeP (i := 7) (some 47) (Op.pick (Operand.tmp 42) (Operand.tmp 46) (Operand.const (Value.bool false))) 4 (v := ?_) ⟨_, rfl, rfl, rfl, rfl, rfl⟩ (by kernel_rfl) (by kernel_rfl) (by kernel_rfl) (by kernel_rfl) (fun _ _ _ h => h) (fun _ => hS0) (fun w' => ?_) ?_
  rotate_left
  · unfold bareOp
    go_simp
    try with_reducible rfl
  simp only [Act.put, sZc, sZa, sZb]
  refine wpAnyB_takeP (i := 8) (some 48) (Op.move (Operand.tmp 47)) 4 (v := ?_) ⟨_, rfl, rfl, rfl, rfl, rfl⟩ (by kernel_rfl) (by kernel_rfl) (by kernel_rfl) (by kernel_rfl) (fun _ _ _ h => h) (fun _ => hS0) (fun w' => ?_) ?_
  rotate_left
  · unfold bareOp
    go_simp
    try with_reducible rfl
  simp only [Act.put, sZc, sZa, sZb]
  refine wpAnyB_takePG (i := 9) (some 49) (Op.move (Operand.tmp 5)) 32 (some (8, true)) (v := ?_) ⟨_, rfl, rfl, rfl, rfl, rfl⟩ rfl (by kernel_rfl) (by kernel_rfl) (by kernel_rfl) (by kernel_rfl) (fun _ _ _ h => h) (fun _ => hS0) (fun w' => ?_) ?_
  rotate_left
  · unfold bareOp
    go_simp
    try with_reducible rfl
  simp only [Act.put, sZc, sZa, sZb]
  refine wpAnyB_takePG (i := 10) (some 50) (Op.binOp BinOp.eql 32 (Operand.tmp 49) (Operand.const (Value.int IntKind.i64 0)) 32) 4 (some (8, true)) (v := ?_) ⟨_, rfl, rfl, rfl, rfl, rfl⟩ rfl (by kernel_rfl) (by kernel_rfl) (by kernel_rfl) (by kernel_rfl) (fun _ _ _ h => h) (fun _ => hS0) (fun w' => ?_) ?_
  rotate_left
  · unfold bareOp
    go_simp
    try with_reducible rfl
  simp only [Act.put, sZc, sZa, sZb]
  refine wpAnyB_takeP (i := 11) (some 51) (Op.pick (Operand.tmp 48) (Operand.tmp 50) (Operand.const (Value.bool false))) 4 (v := ?_) ⟨_, rfl, rfl, rfl, rfl, rfl⟩ (by kernel_rfl) (by kernel_rfl) (by kernel_rfl) (by kernel_rfl) (fun _ _ _ h => h) (fun _ => hS0) (fun w' => ?_) ?_
  rotate_left
  · unfold bareOp
    go_simp
    try with_reducible rfl
  simp only [Act.put, sZc, sZa, sZb]
  refine wpAnyB_takeP (i := 12) (some 52) (Op.move (Operand.tmp 51)) 4 (v := ?_) ⟨_, rfl, rfl, rfl, rfl, rfl⟩ (by kernel_rfl) (by kernel_rfl) (by kernel_rfl) (by kernel_rfl) (fun _ _ _ h => h) (fun _ => hS0) (fun w' => ?_) ?_
  rotate_left
  · unfold bareOp
    go_simp
    try with_reducible rfl
  simp only [Act.put, sZc, sZa, sZb]
  refine wpAnyB_takePG (i := 13) (some 53) (Op.move (Operand.tmp 4)) 4 (some (12, true)) (v := ?_) ⟨_, rfl, rfl, rfl, rfl, rfl⟩ rfl (by kernel_rfl) (by kernel_rfl) (by kernel_rfl) (by kernel_rfl) (fun _ _ _ h => h) (fun _ => hS0) (fun w' => ?_) ?_
  rotate_left
  · unfold bareOp
    go_simp
    try with_reducible rfl
  simp only [Act.put, sZc, sZa, sZb]
  refine wpAnyB_takeP (i := 14) (some 54) (Op.pick (Operand.tmp 52) (Operand.tmp 53) (Operand.const (Value.bool false))) 4 (v := ?_) ⟨_, rfl, rfl, rfl, rfl, rfl⟩ (by kernel_rfl) (by kernel_rfl) (by kernel_rfl) (by kernel_rfl) (fun _ _ _ h => h) (fun _ => hS0) (fun w' => ?_) ?_
  rotate_left
  · unfold bareOp
    go_simp
    try with_reducible rfl
  simp only [Act.put, sZc, sZa, sZb]
  refine wpAnyB_takeP (i := 15) (some 55) (Op.move (Operand.tmp 54)) 4 (v := ?_) ⟨_, rfl, rfl, rfl, rfl, rfl⟩ (by kernel_rfl) (by kernel_rfl) (by kernel_rfl) (by kernel_rfl) (fun _ _ _ h => h) (fun _ => hS0) (fun w' => ?_) ?_
  rotate_left
  · unfold bareOp
    go_simp
    try with_reducible rfl
  simp only [Act.put, sZc, sZa, sZb]
  refine wpAnyB_takePG (i := 16) (some 56) (Op.move (Operand.tmp 7)) 32 (some (15, true)) (v := ?_) ⟨_, rfl, rfl, rfl, rfl, rfl⟩ rfl (by kernel_rfl) (by kernel_rfl) (by kernel_rfl) (by kernel_rfl) (fun _ _ _ h => h) (fun _ => hS0) (fun w' => ?_) ?_
  rotate_left
  · unfold bareOp
    go_simp
    try with_reducible rfl
  simp only [Act.put, sZc, sZa, sZb]
  refine wpAnyB_takePG (i := 17) (some 57) (Op.binOp BinOp.eql 32 (Operand.tmp 56) (Operand.const (Value.int IntKind.i64 0)) 32) 4 (some (15, true)) (v := ?_) ⟨_, rfl, rfl, rfl, rfl, rfl⟩ rfl (by kernel_rfl) (by kernel_rfl) (by kernel_rfl) (by kernel_rfl) (fun _ _ _ h => h) (fun _ => hS0) (fun w' => ?_) ?_
  rotate_left
  · unfold bareOp
    go_simp
    try with_reducible rfl
  simp only [Act.put, sZc, sZa, sZb]
  refine wpAnyB_takeP (i := 18) (some 58) (Op.pick (Operand.tmp 55) (Operand.tmp 57) (Operand.const (Value.bool false))) 4 (v := ?_) ⟨_, rfl, rfl, rfl, rfl, rfl⟩ (by kernel_rfl) (by kernel_rfl) (by kernel_rfl) (by kernel_rfl) (fun _ _ _ h => h) (fun _ => hS0) (fun w' => ?_) ?_
  rotate_left
  · unfold bareOp
    go_simp
    try with_reducible rfl
  simp only [Act.put, sZc, sZa, sZb]
  refine wpAnyB_takeP (i := 19) (some 59) (Op.move (Operand.tmp 58)) 4 (v := ?_) ⟨_, rfl, rfl, rfl, rfl, rfl⟩ (by kernel_rfl) (by kernel_rfl) (by kernel_rfl) (by kernel_rfl) (fun _ _ _ h => h) (fun _ => hS0) (fun w' => ?_) ?_
  rotate_left
  · unfold bareOp
    go_simp
    try with_reducible rfl
  simp only [Act.put, sZc, sZa, sZb]
  refine wpAnyB_takePG (i := 20) (some 60) (Op.fieldAddr 53 (Operand.tmp 6) 0) 0 (some (19, true)) (v := ?_) ⟨_, rfl, rfl, rfl, rfl, rfl⟩ rfl (by kernel_rfl) (by kernel_rfl) (by kernel_rfl) (by kernel_rfl) (fun _ _ _ h => h) (fun _ => hS0) (fun w' => ?_) ?_
  rotate_left
  · unfold bareOp
    go_simp
    try with_reducible rfl
  simp only [Act.put, sZc, sZa, sZb]
  refine wpAnyB_takeG (i := 21) (some 61) (Op.load 50 (Operand.tmp 60)) 50 (some (19, true)) (v := ?_) ⟨_, rfl, rfl, rfl, rfl, rfl⟩ rfl (by kernel_rfl) (by kernel_rfl) (by kernel_rfl) [22, 23, 24, 25, 26, 27, 28, 29, 30, 31, 32, 33, 34, 35, 36, 37, 38, 39, 40, 41] (by kernel_rfl) (fun _ _ _ h => h) hS0 (fun w' hSw => ?_) ?_
  rotate_left
  · obtain ⟨t1, t2, t3⟩ := hSw; obtain ⟨⟨q0, q1, q2, q3, q4, q5, q6, q7, q8, q9, q10⟩, -⟩ := t1.k11; have r0 := t2.c 0 _ rfl; have r1 := t3.c 1 _ rfl
    unfold bareOp
    go_simp
    try with_reducible rfl
  simp only [Act.put, sZc, sZa, sZb]
  refine wpAnyB_takePG (i := 22) (some 62) (Op.call { callee := Callee.builtin Builtin.len, args := #[Operand.tmp 61], argTypes := #[50] }) 3 (some (19, true)) (v := ?_) ⟨_, rfl, rfl, rfl, rfl, rfl⟩ rfl (by kernel_rfl) (by kernel_rfl) (by kernel_rfl) (by kernel_rfl) (fun _ _ _ h => h) (fun _ => hS0) (fun w' => ?_) ?_
  rotate_left
  · unfold bareOp
    go_simp
    try with_reducible rfl
  simp only [Act.put, sZc, sZa, sZb]
  refine wpAnyB_takePG (i := 23) (some 63) (Op.binOp BinOp.eql 3 (Operand.tmp 62) (Operand.const (Value.int IntKind.i64 1)) 3) 4 (some (19, true)) (v := ?_) ⟨_, rfl, rfl, rfl, rfl, rfl⟩ rfl (by kernel_rfl) (by kernel_rfl) (by kernel_rfl) (by kernel_rfl) (fun _ _ _ h => h) (fun _ => hS0) (fun w' => ?_) ?_
  rotate_left
  · unfold bareOp
    go_simp
    try with_reducible rfl
  simp only [Act.put, sZc, sZa, sZb]
  refine wpAnyB_takeP (i := 24) (some 64) (Op.pick (Operand.tmp 59) (Operand.tmp 63) (Operand.const (Value.bool false))) 4 (v := ?_) ⟨_, rfl, rfl, rfl, rfl, rfl⟩ (by kernel_rfl) (by kernel_rfl) (by kernel_rfl) (by kernel_rfl) (fun _ _ _ h => h) (fun _ => hS0) (fun w' => ?_) ?_
  rotate_left
  · unfold bareOp
    go_simp
    try with_reducible rfl
  simp only [Act.put, sZc, sZa, sZb]
  refine wpAnyB_takeP (i := 25) (some 65) (Op.move (Operand.tmp 64)) 4 (v := ?_) ⟨_, rfl, rfl, rfl, rfl, rfl⟩ (by kernel_rfl) (by kernel_rfl) (by kernel_rfl) (by kernel_rfl) (fun _ _ _ h => h) (fun _ => hS0) (fun w' => ?_) ?_
  rotate_left
  · unfold bareOp
    go_simp
    try with_reducible rfl
  simp only [Act.put, sZc, sZa, sZb]
  refine wpAnyB_takePG (i := 26) (some 66) (Op.move (Operand.tmp 9)) 32 (some (25, true)) (v := ?_) ⟨_, rfl, rfl, rfl, rfl, rfl⟩ rfl (by kernel_rfl) (by kernel_rfl) (by kernel_rfl) (by kernel_rfl) (fun _ _ _ h => h) (fun _ => hS0) (fun w' => ?_) ?_
  rotate_left
  · unfold bareOp
    go_simp
    try with_reducible rfl
  simp only [Act.put, sZc, sZa, sZb]
  refine wpAnyB_takePG (i := 27) (some 67) (Op.binOp BinOp.eql 32 (Operand.tmp 66) (Operand.const (Value.int IntKind.i64 0)) 32) 4 (some (25, true)) (v := ?_) ⟨_, rfl, rfl, rfl, rfl, rfl⟩ rfl (by kernel_rfl) (by kernel_rfl) (by kernel_rfl) (by kernel_rfl) (fun _ _ _ h => h) (fun _ => hS0) (fun w' => ?_) ?_
  rotate_left
  · unfold bareOp
    go_simp
    try with_reducible rfl
  simp only [Act.put, sZc, sZa, sZb]
  refine wpAnyB_takeP (i := 28) (some 68) (Op.pick (Operand.tmp 65) (Operand.tmp 67) (Operand.const (Value.bool false))) 4 (v := ?_) ⟨_, rfl, rfl, rfl, rfl, rfl⟩ (by kernel_rfl) (by kernel_rfl) (by kernel_rfl) (by kernel_rfl) (fun _ _ _ h => h) (fun _ => hS0) (fun w' => ?_) ?_
  rotate_left
  · unfold bareOp
    go_simp
    try with_reducible rfl
  simp only [Act.put, sZc, sZa, sZb]
  refine wpAnyB_takeP (i := 29) (some 69) (Op.move (Operand.tmp 68)) 4 (v := ?_) ⟨_, rfl, rfl, rfl, rfl, rfl⟩ (by kernel_rfl) (by kernel_rfl) (by kernel_rfl) (by kernel_rfl) (fun _ _ _ h => h) (fun _ => hS0) (fun w' => ?_) ?_
  rotate_left
  · unfold bareOp
    go_simp
    try with_reducible rfl
  simp only [Act.put, sZc, sZa, sZb]
  refine wpAnyB_takePG (i := 30) (some 70) (Op.fieldAddr 53 (Operand.tmp 8) 1) 0 (some (29, true)) (v := ?_) ⟨_, rfl, rfl, rfl, rfl, rfl⟩ rfl (by kernel_rfl) (by kernel_rfl) (by kernel_rfl) (by kernel_rfl) (fun _ _ _ h => h) (fun _ => hS0) (fun w' => ?_) ?_
  rotate_left
  · unfold bareOp
    go_simp
    try with_reducible rfl
  simp only [Act.put, sZc, sZa, sZb]
  refine wpAnyB_takeG (i := 31) (some 71) (Op.load 50 (Operand.tmp 70)) 50 (some (29, true)) (v := ?_) ⟨_, rfl, rfl, rfl, rfl, rfl⟩ rfl (by kernel_rfl) (by kernel_rfl) (by kernel_rfl) [32, 33, 34, 35, 36, 37, 38, 39, 40, 41] (by kernel_rfl) (fun _ _ _ h => h) hS0 (fun w' hSw => ?_) ?_
  rotate_left
  · obtain ⟨t1, t2, t3⟩ := hSw; obtain ⟨⟨q0, q1, q2, q3, q4, q5, q6, q7, q8, q9, q10⟩, -⟩ := t1.k11; have r0 := t2.c 0 _ rfl; have r1 := t3.c 1 _ rfl
    unfold bareOp
    go_simp
    try with_reducible rfl
  simp only [Act.put, sZc, sZa, sZb]
  refine wpAnyB_takePG (i := 32) (some 72) (Op.call { callee := Callee.builtin Builtin.len, args := #[Operand.tmp 71], argTypes := #[50] }) 3 (some (29, true)) (v := ?_) ⟨_, rfl, rfl, rfl, rfl, rfl⟩ rfl (by kernel_rfl) (by kernel_rfl) (by kernel_rfl) (by kernel_rfl) (fun _ _ _ h => h) (fun _ => hS0) (fun w' => ?_) ?_
  rotate_left
  · unfold bareOp
    go_simp
    try with_reducible rfl
  simp only [Act.put, sZc, sZa, sZb]
  refine wpAnyB_takePG (i := 33) (some 73) (Op.binOp BinOp.eql 3 (Operand.tmp 72) (Operand.const (Value.int IntKind.i64 1)) 3) 4 (some (29, true)) (v := ?_) ⟨_, rfl, rfl, rfl, rfl, rfl⟩ rfl (by kernel_rfl) (by kernel_rfl) (by kernel_rfl) (by kernel_rfl) (fun _ _ _ h => h) (fun _ => hS0) (fun w' => ?_) ?_
  rotate_left
  · unfold bareOp
    go_simp
    try with_reducible rfl
  simp only [Act.put, sZc, sZa, sZb]
  refine wpAnyB_takeP (i := 34) (some 74) (Op.pick (Operand.tmp 69) (Operand.tmp 73) (Operand.const (Value.bool false))) 4 (v := ?_) ⟨_, rfl, rfl, rfl, rfl, rfl⟩ (by kernel_rfl) (by kernel_rfl) (by kernel_rfl) (by kernel_rfl) (fun _ _ _ h => h) (fun _ => hS0) (fun w' => ?_) ?_
  rotate_left
  · unfold bareOp
    go_simp
    try with_reducible rfl
  simp only [Act.put, sZc, sZa, sZb]
  refine wpAnyB_takeP (i := 35) (some 75) (Op.move (Operand.tmp 74)) 4 (v := ?_) ⟨_, rfl, rfl, rfl, rfl, rfl⟩ (by kernel_rfl) (by kernel_rfl) (by kernel_rfl) (by kernel_rfl) (fun _ _ _ h => h) (fun _ => hS0) (fun w' => ?_) ?_
  rotate_left
  · unfold bareOp
    go_simp
    try with_reducible rfl
  simp only [Act.put, sZc, sZa, sZb]
  refine wpAnyB_takePG (i := 36) (some 76) (Op.fieldAddr 29 (Operand.tmp 1) 0) 0 (some (35, true)) (v := ?_) ⟨_, rfl, rfl, rfl, rfl, rfl⟩ rfl (by kernel_rfl) (by kernel_rfl) (by kernel_rfl) (by kernel_rfl) (fun _ _ _ h => h) (fun _ => hS0) (fun w' => ?_) ?_
  rotate_left
  · unfold bareOp
    go_simp
    try with_reducible rfl
  simp only [Act.put, sZc, sZa, sZb]
  refine wpAnyB_takeG (i := 37) (some 77) (Op.load 22 (Operand.tmp 76)) 22 (some (35, true)) (v := ?_) ⟨_, rfl, rfl, rfl, rfl, rfl⟩ rfl (by kernel_rfl) (by kernel_rfl) (by kernel_rfl) [38, 39, 40, 41] (by kernel_rfl) (fun _ _ _ h => h) hS0 (fun w' hSw => ?_) ?_
  rotate_left
  · obtain ⟨t1, t2, t3⟩ := hSw; obtain ⟨⟨q0, q1, q2, q3, q4, q5, q6, q7, q8, q9, q10⟩, -⟩ := t1.k11; have r0 := t2.c 0 _ rfl; have r1 := t3.c 1 _ rfl
    unfold bareOp
    go_simp
    try with_reducible rfl
  simp only [Act.put, sZc, sZa, sZb]
  refine wpAnyB_takePG (i := 38) (some 78) (Op.call { callee := Callee.builtin Builtin.len, args := #[Operand.tmp 77], argTypes := #[22] }) 3 (some (35, true)) (v := ?_) ⟨_, rfl, rfl, rfl, rfl, rfl⟩ rfl (by kernel_rfl) (by kernel_rfl) (by kernel_rfl) (by kernel_rfl) (fun _ _ _ h => h) (fun _ => hS0) (fun w' => ?_) ?_
  rotate_left
  · unfold bareOp
    go_simp
    try with_reducible rfl
  simp only [Act.put, sZc, sZa, sZb]
  refine wpAnyB_takePG (i := 39) (some 79) (Op.binOp BinOp.eql 3 (Operand.tmp 78) (Operand.const (Value.int IntKind.i64 2)) 3) 4 (some (35, true)) (v := ?_) ⟨_, rfl, rfl, rfl, rfl, rfl⟩ rfl (by kernel_rfl) (by kernel_rfl) (by kernel_rfl) (by kernel_rfl) (fun _ _ _ h => h) (fun _ => hS0) (fun w' => ?_) ?_
  rotate_left
  · unfold bareOp
    go_simp
    try with_reducible rfl
  simp only [Act.put, sZc, sZa, sZb]
  refine wpAnyB_takeP (i := 40) (some 80) (Op.pick (Operand.tmp 75) (Operand.tmp 79) (Operand.const (Value.bool false))) 4 (v := ?_) ⟨_, rfl, rfl, rfl, rfl, rfl⟩ (by kernel_rfl) (by kernel_rfl) (by kernel_rfl) (by kernel_rfl) (fun _ _ _ h => h) (fun _ => hS0) (fun w' => ?_) ?_
  rotate_left
  · unfold bareOp
    go_simp
    try with_reducible rfl
  simp only [Act.put, sZc, sZa, sZb]
  refine wpAnyB_only (i := 41) (some 0) (Op.assign (Operand.tmp 80)) 4 ⟨_, rfl, rfl, rfl, rfl, rfl⟩ (by kernel_rfl) (fun K hK => ?_)
  unfold bareOp
  go_wp2_with fail
  refine hK.out _ _ (fun h => absurd (h.symm.trans (by kernel_rfl : _ = true)) (by decide)) ?_
  clear hK K
  try simp only [Act.put, sZc, sZa, sZb]
  refine wpAnyB_done (by kernel_rfl) ?_ _
  go_wp2_with fail
  go_ret
  exact ⟨rfl, HBW.out⟩
end Go.Proofs.YtlbldpkgnonbpaaDoor
