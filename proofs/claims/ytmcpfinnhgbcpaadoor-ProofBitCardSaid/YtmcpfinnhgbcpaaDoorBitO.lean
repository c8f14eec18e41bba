/- The reference's BitOf, BitProve. -/
import Derived.Test.YtmcpfinnhgbcpaaDoorBitR
namespace Go.Proofs.YtmcpfinnhgbcpaaDoor
open Go Go.RowKit Num Sha
set_option linter.unusedSimpArgs false
set_option linter.unusedVariables false

theorem powm_zero_one {G P : Int} (h : 1 < P) : powm G 0 P = 1 := by
  unfold powm
  simp
  exact Int.emod_eq_of_lt (by omega) h

set_option maxRecDepth 100000 in
set_option maxHeartbeats 16000000 in
theorem rBitOf_any {P Q G y bm r k c z r0 r1 s0 s1 c0 c1 z0 z1 : Int} {tx : Option Addr} {n cp : Nat} {T : List Int} (w : World) (hT : Txt w tx n T) (hH : Has P Q G) (y0 : 0 ≤ y) (yP : y < P) (r0_ : 0 ≤ r) (rQ : r < Q) (k0_ : 0 ≤ k) (kQ : k < Q) (c0_ : 0 ≤ c) (cQ : c < Q) (z0_ : 0 ≤ z) (zQ : z < Q) (hn8 : n ≤ 8000) (hm : bm = 0 ∨ bm = 1) (hZ : BitZ P Q G y bm r k c z T r0 r1 s0 s1 c0 c1 z0 z1) :
    Calls Tryd.prog 56 #[.agg #[.int .u64 P, .int .u64 Q, .int .u64 G], .int .u64 y, .int .i64 bm, .int .u64 r, .int .u64 k, .int .u64 c, .int .u64 z, .slice tx n cp] w fun e w' => e = .returned (.agg #[.int .u64 r0, .int .u64 r1, .int .u64 s0, .int .u64 s1, .int .u64 c0, .int .u64 c1, .int .u64 z0, .int .u64 z1]) ∧ Below w.heap.size w w' := by
  have HT := Lib.hid hT
  clear hT
  obtain ⟨p5, p3, hQ', pq, g2, gP⟩ := id hH
  have hP1 : 1 ≤ P := by omega
  have hGM : G < 2147483648 := by omega
  have q3 : Q < 1073741824 := by omega
  have q2 : 2 ≤ Q := by omega
  have HH := Lib.hid hH
  clear hH pq
  rcases hm with rfl | rfl
  · skip
    obtain ⟨a, b, nn, pp, t1, mi, g1, g2, Rj, h1, h2, Sj, Rm, Sm, tot, Cm, Zm, ha, hb, hnn, hpp, ht1, hmi, hg1, hg2, hrj, hh1, hh2, hsj, hrm, hsm, htt, hcm, hzm, hf⟩ := hZ
    rw [if_pos rfl] at hh2 htt hf
    obtain ⟨q1, q2, q3_, q4, q5, q6, q7, q8⟩ := hf
    replace q1 := q1.symm
    subst q1
    replace q2 := q2.symm
    subst q2
    replace q3_ := q3_.symm
    subst q3_
    replace q4 := q4.symm
    subst q4
    replace q5 := q5.symm
    subst q5
    replace q6 := q6.symm
    subst q6
    replace q7 := q7.symm
    subst q7
    replace q8 := q8.symm
    subst q8
    have y0_ := y0
    have aa0 : 0 ≤ a := by rw [← ha]; exact powm_nonneg (by omega)
    have aaP : a < P := by rw [← ha]; exact powm_lt (by omega)
    have bb0 : 0 ≤ b := by rw [← hb]; exact Int.emod_nonneg _ (by omega)
    have bbP : b < P := by rw [← hb]; exact Int.emod_lt_of_pos _ (by omega)
    have t10 : 0 ≤ t1 := by rw [← ht1]; exact Int.emod_nonneg _ (by omega)
    have t1P : t1 < P := by rw [← ht1]; exact Int.emod_lt_of_pos _ (by omega)
    have tj0 : 0 ≤ t1 := by assumption
    have tjP : t1 < P := by assumption
    have mi0 : 0 ≤ mi := by rw [← hmi]; exact Int.emod_nonneg _ (by omega)
    have miQ : mi < Q := by rw [← hmi]; exact Int.emod_lt_of_pos _ (by omega)
    have g10 : 0 ≤ g1 := by rw [← hg1]; exact powm_nonneg (by omega)
    have g1P : g1 < P := by rw [← hg1]; exact powm_lt (by omega)
    have g20 : 0 ≤ g2 := by rw [← hg2]; exact powm_nonneg (by omega)
    have g2P : g2 < P := by rw [← hg2]; exact powm_lt (by omega)
    have h10 : 0 ≤ h1 := by rw [← hh1]; exact powm_nonneg (by omega)
    have h1P : h1 < P := by rw [← hh1]; exact powm_lt (by omega)
    have h20 : 0 ≤ h2 := by rw [← hh2]; exact powm_nonneg (by omega)
    have h2P : h2 < P := by rw [← hh2]; exact powm_lt (by omega)
    have rj0 : 0 ≤ Rj := by rw [← hrj]; exact Int.emod_nonneg _ (by omega)
    have rjP : Rj < P := by rw [← hrj]; exact Int.emod_lt_of_pos _ (by omega)
    have sj0 : 0 ≤ Sj := by rw [← hsj]; exact Int.emod_nonneg _ (by omega)
    have sjP : Sj < P := by rw [← hsj]; exact Int.emod_lt_of_pos _ (by omega)
    have rm0 : 0 ≤ Rm := by rw [← hrm]; exact powm_nonneg (by omega)
    have rmP : Rm < P := by rw [← hrm]; exact powm_lt (by omega)
    have sm0 : 0 ≤ Sm := by rw [← hsm]; exact powm_nonneg (by omega)
    have smP : Sm < P := by rw [← hsm]; exact powm_lt (by omega)
    obtain ⟨tot0, totQ⟩ : 0 ≤ tot ∧ tot < Q := by rw [← htt]; exact chV_range (by omega) _ _
    have cm0 : 0 ≤ Cm := by rw [← hcm]; exact Int.emod_nonneg _ (by omega)
    have cmQ : Cm < Q := by rw [← hcm]; exact Int.emod_lt_of_pos _ (by omega)
    have UZ := Lib.hid (U64.of_lt z0_ (by omega))
    have UK := Lib.hid (U64.of_lt k0_ (by omega))
    have UM := Lib.hid (U64.of_lt mi0 (by omega))
    have HUS := Lib.hid (show ∀ x, x ∈ [y, a, b, Rm, Sm, Rj, Sj] → U64 x from fun x hx => by
      simp at hx
      rcases hx with rfl | rfl | rfl | rfl | rfl | rfl | rfl <;> exact U64.of_lt (by assumption) (by omega))
    have HA := Lib.hid ha
    have HB := Lib.hid hb
    have HNN := Lib.hid hnn
    have HPP := Lib.hid hpp
    have HT1 := Lib.hid ht1
    have HMI := Lib.hid hmi
    have HG1 := Lib.hid hg1
    have HG2 := Lib.hid hg2
    have HRJ := Lib.hid hrj
    have HH1 := Lib.hid hh1
    have HH2 := Lib.hid hh2
    have HSJ := Lib.hid hsj
    have HRM := Lib.hid hrm
    have HSM := Lib.hid hsm
    have HTT := Lib.hid htt
    have HCM := Lib.hid hcm
    have HZS := Lib.hid (show RetS (askS P Q G [r, k, Cm] []) ((k + Cm * r % Q) % Q) Zm 0 from .inl ⟨askS_ok HH.out (by simp; omega) (by simp), hzm.symm, rfl⟩)
    obtain ⟨k1, k2⟩ := mul_bound g10 (show g1 < 2147483648 by omega) g20 (show g2 < 2147483648 by omega)
    have k3 := wrap_u k1 (by omega)
    have k4 : (g1 * g2).tmod P = Rj := (tmod_u k1).trans hrj
    have k7 := wrap_u rj0 (by omega)
    obtain ⟨l1, l2⟩ := mul_bound h10 (show h1 < 2147483648 by omega) h20 (show h2 < 2147483648 by omega)
    have l3 := wrap_u l1 (by omega)
    have l4 : (h1 * h2).tmod P = Sj := (tmod_u l1).trans hsj
    have l7 := wrap_u sj0 (by omega)
    have k8 : ¬ P = 0 := by omega
    have PM : P < 2147483648 := by omega
    have hG : 0 ≤ G := by omega
    have GM : G < 2147483648 := by omega
    have yM : y < 2147483648 := by omega
    have aaM : a < 2147483648 := by omega
    have tjM : t1 < 2147483648 := by omega
    obtain ⟨pz, hpz⟩ : ∃ pz, powm G 0 P = pz := ⟨_, rfl⟩
    have HPZ := Lib.hid hpz
    have HBZ := Lib.hid (show b * pz % P = b by rw [← hpz, powm_zero_one (by omega), Int.mul_one]; exact Int.emod_eq_of_lt bb0 bbP)
    obtain ⟨mm, hmm⟩ : ∃ mm, Cm * r % Q = mm := ⟨_, rfl⟩
    have HMM := Lib.hid hmm
    have HZM := Lib.hid (show (k + mm) % Q = Zm by rw [← hmm]; exact hzm)
    clear hpz hmm
    clear y0_ ha hb hnn hpp ht1 hmi hg1 hg2 hrj hh1 hh2 hsj hrm hsm htt hcm hzm
    have F_g := Lib.hid (show Boxed ((w.alloc (.cells #[.int .u64 P, .int .u64 Q, .int .u64 G] 24)).alloc (.cells #[.int .u64 0, .int .u64 0, .int .u64 0, .int .u64 0, .int .u64 0, .int .u64 0, .int .u64 0, .int .u64 0] 54)) (w.heap.size) P Q G from (Boxed.at _ P Q G _ (w.heap.size) (by simp)).alloc _)
    have F_r := Lib.hid (show Arr .u64 ((w.alloc (.cells #[.int .u64 P, .int .u64 Q, .int .u64 G] 24)).alloc (.cells #[.int .u64 0, .int .u64 0, .int .u64 0, .int .u64 0, .int .u64 0, .int .u64 0, .int .u64 0, .int .u64 0] 54)) (w.heap.size + 1) [0, 0, 0, 0, 0, 0, 0, 0] from Arr.new .u64 _ [0, 0, 0, 0, 0, 0, 0, 0] _ (w.heap.size + 1) (by simp))
    have HBW := Lib.hid (show Below w.heap.size w ((w.alloc (.cells #[.int .u64 P, .int .u64 Q, .int .u64 G] 24)).alloc (.cells #[.int .u64 0, .int .u64 0, .int .u64 0, .int .u64 0, .int .u64 0, .int .u64 0, .int .u64 0, .int .u64 0] 54)) from ((Below.refl _ _).alloc (by simp <;> omega) _).alloc (by simp <;> omega) _)
    go_enter Tryd.func56, Tryd.ntmps56
    obtain ⟨q1_0, q1_1, q1_2, q1_3, q1_4, q1_5, q1_6, q1_7, q1_8, q1_9, q1_10, q1_11, q1_12, q1_13, q1_14, q1_15⟩ := Arr.k8 F_r.out
    obtain ⟨x0a, x0b, x0c, -⟩ := id F_g.out
    go_wp2_with fail
    clear x0a x0b x0c q1_0 q1_1 q1_2 q1_3 q1_4 q1_5 q1_6 q1_7 q1_8 q1_9 q1_10 q1_11 q1_12 q1_13 q1_14 q1_15
    refine (rMake_any _ HH.out y0 yP (by omega) (by omega) r0_ rQ HA.out HB.out).mono ?_
    rintro e w1 ⟨rfl, hb1⟩
    replace F_g := Lib.hid (F_g.out.keep hb1)
    replace F_r := Lib.hid (F_r.out.keep hb1)
    replace HBW := Lib.hid (HBW.out.trans (hb1.mono HBW.out.size))
    clear hb1
    have lt_g0 := F_g.out.lt
    have lt_r0 := F_r.out.lt
    obtain ⟨q1_0, q1_1, q1_2, q1_3, q1_4, q1_5, q1_6, q1_7, q1_8, q1_9, q1_10, q1_11, q1_12, q1_13, q1_14, q1_15⟩ := Arr.k8 F_r.out
    obtain ⟨x0a, x0b, x0c, -⟩ := id F_g.out
    go_wp2_with fail
    clear x0a x0b x0c q1_0 q1_1 q1_2 q1_3 q1_4 q1_5 q1_6 q1_7 q1_8 q1_9 q1_10 q1_11 q1_12 q1_13 q1_14 q1_15
    replace F_g := Lib.hid (F_g.out.alloc (.cells #[.int .u64 a, .int .u64 b] 51))
    replace F_r := Lib.hid (F_r.out.alloc (.cells #[.int .u64 a, .int .u64 b] 51))
    have F_s := Lib.hid (Pair.new w1 a b 51)
    replace HBW := Lib.hid (HBW.out.alloc HBW.out.size (.cells #[.int .u64 a, .int .u64 b] 51))
    replace F_g := Lib.hid (F_g.out.alloc (.cells #[.int .u64 0, .int .u64 0, .int .u64 0, .int .u64 0, .int .u64 0, .int .u64 c, .int .u64 0, .int .u64 z] 54))
    replace F_r := Lib.hid (F_r.out.alloc (.cells #[.int .u64 0, .int .u64 0, .int .u64 0, .int .u64 0, .int .u64 0, .int .u64 c, .int .u64 0, .int .u64 z] 54))
    replace F_s := Lib.hid (F_s.out.alloc (.cells #[.int .u64 0, .int .u64 0, .int .u64 0, .int .u64 0, .int .u64 0, .int .u64 c, .int .u64 0, .int .u64 z] 54))
    have F_p := Lib.hid (show Arr .u64 ((w1.alloc (.cells #[.int .u64 a, .int .u64 b] 51)).alloc (.cells #[.int .u64 0, .int .u64 0, .int .u64 0, .int .u64 0, .int .u64 0, .int .u64 c, .int .u64 0, .int .u64 z] 54)) ((w1.alloc (.cells #[.int .u64 a, .int .u64 b] 51)).heap.size) [0, 0, 0, 0, 0, c, 0, z] from Arr.new .u64 (w1.alloc (.cells #[.int .u64 a, .int .u64 b] 51)) [0, 0, 0, 0, 0, c, 0, z] _ _ rfl)
    replace HBW := Lib.hid (HBW.out.alloc HBW.out.size (.cells #[.int .u64 0, .int .u64 0, .int .u64 0, .int .u64 0, .int .u64 0, .int .u64 c, .int .u64 0, .int .u64 z] 54))
    generalize ((w1.alloc (.cells #[.int .u64 a, .int .u64 b] 51)).alloc (.cells #[.int .u64 0, .int .u64 0, .int .u64 0, .int .u64 0, .int .u64 0, .int .u64 c, .int .u64 0, .int .u64 z] 54)) = wp at F_g F_r F_s F_p HBW ⊢
    try simp only [World.size_alloc] at F_p
    have lt_g : w.heap.size < w1.heap.size + 1 := by omega
    have lt_r : w.heap.size + 1 < w1.heap.size + 1 := by omega
    have lt_s : w1.heap.size < w1.heap.size + 1 := by omega
    generalize hbp : w1.heap.size + 1 = Bp at F_p lt_g lt_r lt_s ⊢
    generalize hbs : w1.heap.size = Bs at F_s lt_s ⊢
    clear hbp hbs lt_g0 lt_r0
    have hle : w.heap.size ≤ Bp := Nat.le_of_lt lt_g
    go_wp2_with fail
    replace F_g := Lib.hid F_g.out.drew
    replace F_r := Lib.hid F_r.out.drew
    replace F_s := Lib.hid F_s.out.drew
    replace F_p := Lib.hid F_p.out.drew
    replace HBW := Lib.hid HBW.out.drew
    have hS := And.intro F_g.out.s (And.intro F_s.out.s F_p.out.s8)
    refine wp_region_stage 19 (fun w' => SBox w' w.heap.size P Q G ∧ SPair w' Bs a b ∧ S8 w' Bp 0 0 0 0 0 c 0 z) (by kernel_rfl) ?_
    refine wpAnyB_takeP (i := 0) (some 37) (Op.move (Operand.tmp 18)) 3 (v := ?_) ⟨_, rfl, rfl, rfl, rfl, rfl⟩ (by kernel_rfl) (by kernel_rfl) (by kernel_rfl) (by kernel_rfl) (fun _ _ _ h => h) (fun _ => hS) (fun w' => ?_) ?_
    rotate_left
    · unfold bareOp
      go_simp
      try with_reducible rfl
    simp only [Act.put, List.setIfInBounds_toArray, List.set_cons_zero, List.set_cons_succ]
    refine wpAnyB_take (i := 1) (some 38) (Op.load 24 (Operand.tmp 8)) 24 (v := ?_) ⟨_, rfl, rfl, rfl, rfl, rfl⟩ (by kernel_rfl) (by kernel_rfl) (by kernel_rfl) [5, 11, 12, 13, 16, 18, 19] (by kernel_rfl) (fun _ _ _ h => h) hS (fun w' hSw => ?_) ?_
    rotate_left
    · obtain ⟨⟨s0, s1, s2⟩, ⟨s3, s4⟩, ⟨s5, s6, s7, s8, s9, sa, sb, sc⟩⟩ := hSw
      unfold bareOp
      go_simp
      try with_reducible rfl
    simp only [Act.put, List.setIfInBounds_toArray, List.set_cons_zero, List.set_cons_succ]
    refine wpAnyB_takeP (i := 2) (some 39) (Op.fieldAddr 24 (Operand.tmp 8) 2) 0 (v := ?_) ⟨_, rfl, rfl, rfl, rfl, rfl⟩ (by kernel_rfl) (by kernel_rfl) (by kernel_rfl) (by kernel_rfl) (fun _ _ _ h => h) (fun _ => hS) (fun w' => ?_) ?_
    rotate_left
    · unfold bareOp
      go_simp
      try with_reducible rfl
    simp only [Act.put, List.setIfInBounds_toArray, List.set_cons_zero, List.set_cons_succ]
    refine wpAnyB_take (i := 3) (some 40) (Op.load 22 (Operand.tmp 39)) 22 (v := ?_) ⟨_, rfl, rfl, rfl, rfl, rfl⟩ (by kernel_rfl) (by kernel_rfl) (by kernel_rfl) [5, 11, 12, 13, 16, 18, 19] (by kernel_rfl) (fun _ _ _ h => h) hS (fun w' hSw => ?_) ?_
    rotate_left
    · obtain ⟨⟨s0, s1, s2⟩, ⟨s3, s4⟩, ⟨s5, s6, s7, s8, s9, sa, sb, sc⟩⟩ := hSw
      unfold bareOp
      go_simp
      try with_reducible rfl
    simp only [Act.put, List.setIfInBounds_toArray, List.set_cons_zero, List.set_cons_succ]
    refine wpAnyB_takeP (i := 4) (some 41) (Op.move (Operand.tmp 6)) 22 (v := ?_) ⟨_, rfl, rfl, rfl, rfl, rfl⟩ (by kernel_rfl) (by kernel_rfl) (by kernel_rfl) (by kernel_rfl) (fun _ _ _ h => h) (fun _ => hS) (fun w' => ?_) ?_
    rotate_left
    · unfold bareOp
      go_simp
      try with_reducible rfl
    simp only [Act.put, List.setIfInBounds_toArray, List.set_cons_zero, List.set_cons_succ]
    refine wpAnyB_take (i := 6) (some 43) (Op.load 24 (Operand.tmp 8)) 24 (v := ?_) ⟨_, rfl, rfl, rfl, rfl, rfl⟩ (by kernel_rfl) (by kernel_rfl) (by kernel_rfl) [12, 13, 16, 18, 19] (by kernel_rfl) (fun _ _ _ h => h) hS (fun w' hSw => ?_) ?_
    rotate_left
    · obtain ⟨⟨s0, s1, s2⟩, ⟨s3, s4⟩, ⟨s5, s6, s7, s8, s9, sa, sb, sc⟩⟩ := hSw
      unfold bareOp
      go_simp
      try with_reducible rfl
    simp only [Act.put, List.setIfInBounds_toArray, List.set_cons_zero, List.set_cons_succ]
    refine wpAnyB_takeP (i := 7) (some 44) (Op.fieldAddr 51 (Operand.tmp 17) 0) 0 (v := ?_) ⟨_, rfl, rfl, rfl, rfl, rfl⟩ (by kernel_rfl) (by kernel_rfl) (by kernel_rfl) (by kernel_rfl) (fun _ _ _ h => h) (fun _ => hS) (fun w' => ?_) ?_
    rotate_left
    · unfold bareOp
      go_simp
      try with_reducible rfl
    simp only [Act.put, List.setIfInBounds_toArray, List.set_cons_zero, List.set_cons_succ]
    refine wpAnyB_take (i := 8) (some 45) (Op.load 22 (Operand.tmp 44)) 22 (v := ?_) ⟨_, rfl, rfl, rfl, rfl, rfl⟩ (by kernel_rfl) (by kernel_rfl) (by kernel_rfl) [12, 13, 16, 18, 19] (by kernel_rfl) (fun _ _ _ h => h) hS (fun w' hSw => ?_) ?_
    rotate_left
    · obtain ⟨⟨s0, s1, s2⟩, ⟨s3, s4⟩, ⟨s5, s6, s7, s8, s9, sa, sb, sc⟩⟩ := hSw
      unfold bareOp
      go_simp
      try with_reducible rfl
    simp only [Act.put, List.setIfInBounds_toArray, List.set_cons_zero, List.set_cons_succ]
    refine wpAnyB_take (i := 9) (some 46) (Op.load 24 (Operand.tmp 8)) 24 (v := ?_) ⟨_, rfl, rfl, rfl, rfl, rfl⟩ (by kernel_rfl) (by kernel_rfl) (by kernel_rfl) [11, 12, 13, 16, 18, 19] (by kernel_rfl) (fun _ _ _ h => h) hS (fun w' hSw => ?_) ?_
    rotate_left
    · obtain ⟨⟨s0, s1, s2⟩, ⟨s3, s4⟩, ⟨s5, s6, s7, s8, s9, sa, sb, sc⟩⟩ := hSw
      unfold bareOp
      go_simp
      try with_reducible rfl
    simp only [Act.put, List.setIfInBounds_toArray, List.set_cons_zero, List.set_cons_succ]
    refine wpAnyB_takeP (i := 10) (some 47) (Op.move (Operand.tmp 5)) 22 (v := ?_) ⟨_, rfl, rfl, rfl, rfl, rfl⟩ (by kernel_rfl) (by kernel_rfl) (by kernel_rfl) (by kernel_rfl) (fun _ _ _ h => h) (fun _ => hS) (fun w' => ?_) ?_
    rotate_left
    · unfold bareOp
      go_simp
      try with_reducible rfl
    simp only [Act.put, List.setIfInBounds_toArray, List.set_cons_zero, List.set_cons_succ]
    refine wpAnyB_takeP (i := 14) (some 51) (Op.fieldAddr 24 (Operand.tmp 8) 0) 0 (v := ?_) ⟨_, rfl, rfl, rfl, rfl, rfl⟩ (by kernel_rfl) (by kernel_rfl) (by kernel_rfl) (by kernel_rfl) (fun _ _ _ h => h) (fun _ => hS) (fun w' => ?_) ?_
    rotate_left
    · unfold bareOp
      go_simp
      try with_reducible rfl
    simp only [Act.put, List.setIfInBounds_toArray, List.set_cons_zero, List.set_cons_succ]
    refine wpAnyB_take (i := 15) (some 52) (Op.load 22 (Operand.tmp 51)) 22 (v := ?_) ⟨_, rfl, rfl, rfl, rfl, rfl⟩ (by kernel_rfl) (by kernel_rfl) (by kernel_rfl) [16, 18, 19] (by kernel_rfl) (fun _ _ _ h => h) hS (fun w' hSw => ?_) ?_
    rotate_left
    · obtain ⟨⟨s0, s1, s2⟩, ⟨s3, s4⟩, ⟨s5, s6, s7, s8, s9, sa, sb, sc⟩⟩ := hSw
      unfold bareOp
      go_simp
      try with_reducible rfl
    simp only [Act.put, List.setIfInBounds_toArray, List.set_cons_zero, List.set_cons_succ]
    refine wpAnyB_takeP (i := 17) (some 54) (Op.fieldAddr 54 (Operand.tmp 19) 0) 0 (v := ?_) ⟨_, rfl, rfl, rfl, rfl, rfl⟩ (by kernel_rfl) (by kernel_rfl) (by kernel_rfl) (by kernel_rfl) (fun _ _ _ h => h) (fun _ => hS) (fun w' => ?_) ?_
    rotate_left
    · unfold bareOp
      go_simp
      try with_reducible rfl
    simp only [Act.put, List.setIfInBounds_toArray, List.set_cons_zero, List.set_cons_succ]
    refine wpAnyB_only (i := 5) (some 42) (Op.call { callee := Callee.value (Operand.func 66), args := #[Operand.tmp 38, Operand.tmp 40, Operand.tmp 41], argTypes := #[24, 22, 22] }) 22 ⟨_, rfl, rfl, rfl, rfl, rfl⟩ (by kernel_rfl) (fun K hK => ?_)
    unfold bareOp
    go_wp2_with (go_at_call 66; refine (r31Power_any _ hP1 PM hG GM UZ.out HG1.out).mono ?_; rintro e w2 ⟨rfl, hb2⟩)
    replace F_g := Lib.hid (F_g.out.keep hb2)
    replace F_r := Lib.hid (F_r.out.keep hb2)
    replace F_s := Lib.hid (F_s.out.keep hb2)
    replace F_p := Lib.hid (F_p.out.keep hb2)
    replace HBW := Lib.hid (HBW.out.trans (hb2.mono HBW.out.size))
    replace hS := And.intro F_g.out.s (And.intro F_s.out.s F_p.out.s8)
    clear hb2
    refine hK.out _ _ (fun _ => hS) ?_
    clear hK K
    try simp only [Act.put, List.setIfInBounds_toArray, List.set_cons_zero, List.set_cons_succ]
    refine wpAnyB_only (i := 11) (some 48) (Op.call { callee := Callee.value (Operand.func 74), args := #[Operand.tmp 46, Operand.tmp 47], argTypes := #[24, 22] }) 22 ⟨_, rfl, rfl, rfl, rfl, rfl⟩ (by kernel_rfl) (fun K hK => ?_)
    unfold bareOp
    go_wp2_with (go_at_call 74; refine (rminus_any _ HH.out c0_ cQ HMI.out).mono ?_; rintro e w3 ⟨rfl, hb3⟩)
    replace F_g := Lib.hid (F_g.out.keep hb3)
    replace F_r := Lib.hid (F_r.out.keep hb3)
    replace F_s := Lib.hid (F_s.out.keep hb3)
    replace F_p := Lib.hid (F_p.out.keep hb3)
    replace HBW := Lib.hid (HBW.out.trans (hb3.mono HBW.out.size))
    replace hS := And.intro F_g.out.s (And.intro F_s.out.s F_p.out.s8)
    clear hb3
    refine hK.out _ _ (fun _ => hS) ?_
    clear hK K
    try simp only [Act.put, List.setIfInBounds_toArray, List.set_cons_zero, List.set_cons_succ]
    refine wpAnyB_only (i := 12) (some 49) (Op.call { callee := Callee.value (Operand.func 66), args := #[Operand.tmp 43, Operand.tmp 45, Operand.tmp 48], argTypes := #[24, 22, 22] }) 22 ⟨_, rfl, rfl, rfl, rfl, rfl⟩ (by kernel_rfl) (fun K hK => ?_)
    unfold bareOp
    go_wp2_with (go_at_call 66; refine (r31Power_any _ hP1 PM aa0 aaM UM.out HG2.out).mono ?_; rintro e w4 ⟨rfl, hb4⟩)
    replace F_g := Lib.hid (F_g.out.keep hb4)
    replace F_r := Lib.hid (F_r.out.keep hb4)
    replace F_s := Lib.hid (F_s.out.keep hb4)
    replace F_p := Lib.hid (F_p.out.keep hb4)
    replace HBW := Lib.hid (HBW.out.trans (hb4.mono HBW.out.size))
    replace hS := And.intro F_g.out.s (And.intro F_s.out.s F_p.out.s8)
    clear hb4
    refine hK.out _ _ (fun _ => hS) ?_
    clear hK K
    try simp only [Act.put, List.setIfInBounds_toArray, List.set_cons_zero, List.set_cons_succ]
    refine wpAnyB_takeP (i := 13) (some 50) (Op.binOp BinOp.mul 22 (Operand.tmp 42) (Operand.tmp 49) 22) 22 (v := ?_) ⟨_, rfl, rfl, rfl, rfl, rfl⟩ (by kernel_rfl) (by kernel_rfl) (by kernel_rfl) (by kernel_rfl) (fun _ _ _ h => h) (fun _ => hS) (fun w' => ?_) ?_
    rotate_left
    · unfold bareOp
      go_simp
      try with_reducible rfl
    simp only [Act.put, List.setIfInBounds_toArray, List.set_cons_zero, List.set_cons_succ]
    refine wpAnyB_takeP (i := 16) (some 53) (Op.binOp BinOp.rem 22 (Operand.tmp 50) (Operand.tmp 52) 22) 22 (v := ?_) ⟨_, rfl, rfl, rfl, rfl, rfl⟩ (by kernel_rfl) (by kernel_rfl) (by kernel_rfl) (by kernel_rfl) (fun _ _ _ h => h) (fun _ => hS) (fun w' => ?_) ?_
    rotate_left
    · unfold bareOp
      go_simp
      try with_reducible rfl
    simp only [Act.put, List.setIfInBounds_toArray, List.set_cons_zero, List.set_cons_succ]
    refine wpAnyB_takeP (i := 18) (some 55) (Op.indexAddr 52 (Operand.tmp 54) (Operand.tmp 37)) 0 (v := ?_) ⟨_, rfl, rfl, rfl, rfl, rfl⟩ (by kernel_rfl) (by kernel_rfl) (by kernel_rfl) (by kernel_rfl) (fun _ _ _ h => h) (fun _ => hS) (fun w' => ?_) ?_
    rotate_left
    · unfold bareOp
      go_simp
      try with_reducible rfl
    simp only [Act.put, List.setIfInBounds_toArray, List.set_cons_zero, List.set_cons_succ]
    refine wpAnyB_only (i := 19) none (Op.store 22 (Operand.tmp 55) (Operand.tmp 53)) 0 ⟨_, rfl, rfl, rfl, rfl, rfl⟩ (by kernel_rfl) (fun K hK => ?_)
    unfold bareOp
    obtain ⟨z0_, z1_, z2_, z3_, z4_, z5_, z6_, z7_, z8_, z9_, z10_, z11_, z12_, z13_, z14_, z15_⟩ := Arr.k8 F_p.out
    go_wp2_with fail
    refine hK.out _ _ (fun h => absurd (h.symm.trans (by kernel_rfl : _ = true)) (by decide)) ?_
    clear hK K
    try simp only [Act.put, List.setIfInBounds_toArray, List.set_cons_zero, List.set_cons_succ]
    refine wpAnyB_done (by kernel_rfl) ?_ _
    clear hS
    clear z0_ z1_ z2_ z3_ z4_ z5_ z6_ z7_ z8_ z9_ z10_ z11_ z12_ z13_ z14_ z15_
    have hbS := ((Below.refl Bp w4).setCell (p := ⟨Bp, 1, none⟩) (Nat.le_refl _) (.int .u64 Rj))
    replace F_g := Lib.hid (F_g.out.under hbS lt_g)
    replace F_r := Lib.hid (F_r.out.under hbS lt_r)
    replace F_s := Lib.hid (F_s.out.under hbS lt_s)
    replace F_p := Lib.hid (F_p.out.set (ys := [0, Rj, 0, 0, 0, c, 0, z]) 1 (by simp) rfl)
    replace HBW := Lib.hid (HBW.out.trans (hbS.mono hle))
    clear hbS
    generalize (w4.setCell ⟨Bp, 1, none⟩ (.int .u64 Rj)) = wq1 at F_g F_r F_s F_p HBW ⊢
    go_wp2_with fail
    replace F_g := Lib.hid F_g.out.drew
    replace F_r := Lib.hid F_r.out.drew
    replace F_s := Lib.hid F_s.out.drew
    replace F_p := Lib.hid F_p.out.drew
    replace HBW := Lib.hid HBW.out.drew
    have hS := And.intro F_g.out.s (And.intro F_s.out.s F_p.out.s8)
    refine wp_region_stage 20 (fun w' => SBox w' w.heap.size P Q G ∧ SPair w' Bs a b ∧ S8 w' Bp 0 Rj 0 0 0 c 0 z) (by kernel_rfl) ?_
    refine wpAnyB_takeP (i := 0) (some 56) (Op.move (Operand.tmp 18)) 3 (v := ?_) ⟨_, rfl, rfl, rfl, rfl, rfl⟩ (by kernel_rfl) (by kernel_rfl) (by kernel_rfl) (by kernel_rfl) (fun _ _ _ h => h) (fun _ => hS) (fun w' => ?_) ?_
    rotate_left
    · unfold bareOp
      go_simp
      try with_reducible rfl
    simp only [Act.put, List.setIfInBounds_toArray, List.set_cons_zero, List.set_cons_succ]
    refine wpAnyB_take (i := 1) (some 57) (Op.load 24 (Operand.tmp 8)) 24 (v := ?_) ⟨_, rfl, rfl, rfl, rfl, rfl⟩ (by kernel_rfl) (by kernel_rfl) (by kernel_rfl) [4, 9, 12, 13, 14, 17, 19, 20] (by kernel_rfl) (fun _ _ _ h => h) hS (fun w' hSw => ?_) ?_
    rotate_left
    · obtain ⟨⟨s0, s1, s2⟩, ⟨s3, s4⟩, ⟨s5, s6, s7, s8, s9, sa, sb, sc⟩⟩ := hSw
      unfold bareOp
      go_simp
      try with_reducible rfl
    simp only [Act.put, List.setIfInBounds_toArray, List.set_cons_zero, List.set_cons_succ]
    refine wpAnyB_takeP (i := 2) (some 58) (Op.move (Operand.tmp 1)) 22 (v := ?_) ⟨_, rfl, rfl, rfl, rfl, rfl⟩ (by kernel_rfl) (by kernel_rfl) (by kernel_rfl) (by kernel_rfl) (fun _ _ _ h => h) (fun _ => hS) (fun w' => ?_) ?_
    rotate_left
    · unfold bareOp
      go_simp
      try with_reducible rfl
    simp only [Act.put, List.setIfInBounds_toArray, List.set_cons_zero, List.set_cons_succ]
    refine wpAnyB_takeP (i := 3) (some 59) (Op.move (Operand.tmp 6)) 22 (v := ?_) ⟨_, rfl, rfl, rfl, rfl, rfl⟩ (by kernel_rfl) (by kernel_rfl) (by kernel_rfl) (by kernel_rfl) (fun _ _ _ h => h) (fun _ => hS) (fun w' => ?_) ?_
    rotate_left
    · unfold bareOp
      go_simp
      try with_reducible rfl
    simp only [Act.put, List.setIfInBounds_toArray, List.set_cons_zero, List.set_cons_succ]
    refine wpAnyB_take (i := 5) (some 61) (Op.load 24 (Operand.tmp 8)) 24 (v := ?_) ⟨_, rfl, rfl, rfl, rfl, rfl⟩ (by kernel_rfl) (by kernel_rfl) (by kernel_rfl) [13, 14, 17, 19, 20] (by kernel_rfl) (fun _ _ _ h => h) hS (fun w' hSw => ?_) ?_
    rotate_left
    · obtain ⟨⟨s0, s1, s2⟩, ⟨s3, s4⟩, ⟨s5, s6, s7, s8, s9, sa, sb, sc⟩⟩ := hSw
      unfold bareOp
      go_simp
      try with_reducible rfl
    simp only [Act.put, List.setIfInBounds_toArray, List.set_cons_zero, List.set_cons_succ]
    refine wpAnyB_take (i := 6) (some 62) (Op.load 24 (Operand.tmp 8)) 24 (v := ?_) ⟨_, rfl, rfl, rfl, rfl, rfl⟩ (by kernel_rfl) (by kernel_rfl) (by kernel_rfl) [9, 12, 13, 14, 17, 19, 20] (by kernel_rfl) (fun _ _ _ h => h) hS (fun w' hSw => ?_) ?_
    rotate_left
    · obtain ⟨⟨s0, s1, s2⟩, ⟨s3, s4⟩, ⟨s5, s6, s7, s8, s9, sa, sb, sc⟩⟩ := hSw
      unfold bareOp
      go_simp
      try with_reducible rfl
    simp only [Act.put, List.setIfInBounds_toArray, List.set_cons_zero, List.set_cons_succ]
    refine wpAnyB_take (i := 7) (some 63) (Op.load 51 (Operand.tmp 17)) 51 (v := ?_) ⟨_, rfl, rfl, rfl, rfl, rfl⟩ (by kernel_rfl) (by kernel_rfl) (by kernel_rfl) [9, 12, 13, 14, 17, 19, 20] (by kernel_rfl) (fun _ _ _ h => h) hS (fun w' hSw => ?_) ?_
    rotate_left
    · obtain ⟨⟨s0, s1, s2⟩, ⟨s3, s4⟩, ⟨s5, s6, s7, s8, s9, sa, sb, sc⟩⟩ := hSw
      unfold bareOp
      go_simp
      try with_reducible rfl
    simp only [Act.put, List.setIfInBounds_toArray, List.set_cons_zero, List.set_cons_succ]
    refine wpAnyB_takeP (i := 8) (some 64) (Op.move (Operand.tmp 18)) 3 (v := ?_) ⟨_, rfl, rfl, rfl, rfl, rfl⟩ (by kernel_rfl) (by kernel_rfl) (by kernel_rfl) (by kernel_rfl) (fun _ _ _ h => h) (fun _ => hS) (fun w' => ?_) ?_
    rotate_left
    · unfold bareOp
      go_simp
      try with_reducible rfl
    simp only [Act.put, List.setIfInBounds_toArray, List.set_cons_zero, List.set_cons_succ]
    refine wpAnyB_take (i := 10) (some 66) (Op.load 24 (Operand.tmp 8)) 24 (v := ?_) ⟨_, rfl, rfl, rfl, rfl, rfl⟩ (by kernel_rfl) (by kernel_rfl) (by kernel_rfl) [12, 13, 14, 17, 19, 20] (by kernel_rfl) (fun _ _ _ h => h) hS (fun w' hSw => ?_) ?_
    rotate_left
    · obtain ⟨⟨s0, s1, s2⟩, ⟨s3, s4⟩, ⟨s5, s6, s7, s8, s9, sa, sb, sc⟩⟩ := hSw
      unfold bareOp
      go_simp
      try with_reducible rfl
    simp only [Act.put, List.setIfInBounds_toArray, List.set_cons_zero, List.set_cons_succ]
    refine wpAnyB_takeP (i := 11) (some 67) (Op.move (Operand.tmp 5)) 22 (v := ?_) ⟨_, rfl, rfl, rfl, rfl, rfl⟩ (by kernel_rfl) (by kernel_rfl) (by kernel_rfl) (by kernel_rfl) (fun _ _ _ h => h) (fun _ => hS) (fun w' => ?_) ?_
    rotate_left
    · unfold bareOp
      go_simp
      try with_reducible rfl
    simp only [Act.put, List.setIfInBounds_toArray, List.set_cons_zero, List.set_cons_succ]
    refine wpAnyB_takeP (i := 15) (some 71) (Op.fieldAddr 24 (Operand.tmp 8) 0) 0 (v := ?_) ⟨_, rfl, rfl, rfl, rfl, rfl⟩ (by kernel_rfl) (by kernel_rfl) (by kernel_rfl) (by kernel_rfl) (fun _ _ _ h => h) (fun _ => hS) (fun w' => ?_) ?_
    rotate_left
    · unfold bareOp
      go_simp
      try with_reducible rfl
    simp only [Act.put, List.setIfInBounds_toArray, List.set_cons_zero, List.set_cons_succ]
    refine wpAnyB_take (i := 16) (some 72) (Op.load 22 (Operand.tmp 71)) 22 (v := ?_) ⟨_, rfl, rfl, rfl, rfl, rfl⟩ (by kernel_rfl) (by kernel_rfl) (by kernel_rfl) [17, 19, 20] (by kernel_rfl) (fun _ _ _ h => h) hS (fun w' hSw => ?_) ?_
    rotate_left
    · obtain ⟨⟨s0, s1, s2⟩, ⟨s3, s4⟩, ⟨s5, s6, s7, s8, s9, sa, sb, sc⟩⟩ := hSw
      unfold bareOp
      go_simp
      try with_reducible rfl
    simp only [Act.put, List.setIfInBounds_toArray, List.set_cons_zero, List.set_cons_succ]
    refine wpAnyB_takeP (i := 18) (some 74) (Op.fieldAddr 54 (Operand.tmp 19) 1) 0 (v := ?_) ⟨_, rfl, rfl, rfl, rfl, rfl⟩ (by kernel_rfl) (by kernel_rfl) (by kernel_rfl) (by kernel_rfl) (fun _ _ _ h => h) (fun _ => hS) (fun w' => ?_) ?_
    rotate_left
    · unfold bareOp
      go_simp
      try with_reducible rfl
    simp only [Act.put, List.setIfInBounds_toArray, List.set_cons_zero, List.set_cons_succ]
    refine wpAnyB_only (i := 4) (some 60) (Op.call { callee := Callee.value (Operand.func 66), args := #[Operand.tmp 57, Operand.tmp 58, Operand.tmp 59], argTypes := #[24, 22, 22] }) 22 ⟨_, rfl, rfl, rfl, rfl, rfl⟩ (by kernel_rfl) (fun K hK => ?_)
    unfold bareOp
    go_wp2_with (go_at_call 66; refine (r31Power_any _ hP1 PM y0 yM UZ.out HH1.out).mono ?_; rintro e w5 ⟨rfl, hb5⟩)
    replace F_g := Lib.hid (F_g.out.keep hb5)
    replace F_r := Lib.hid (F_r.out.keep hb5)
    replace F_s := Lib.hid (F_s.out.keep hb5)
    replace F_p := Lib.hid (F_p.out.keep hb5)
    replace HBW := Lib.hid (HBW.out.trans (hb5.mono HBW.out.size))
    replace hS := And.intro F_g.out.s (And.intro F_s.out.s F_p.out.s8)
    clear hb5
    refine hK.out _ _ (fun _ => hS) ?_
    clear hK K
    try simp only [Act.put, List.setIfInBounds_toArray, List.set_cons_zero, List.set_cons_succ]
    refine wpAnyB_only (i := 9) (some 65) (Op.call { callee := Callee.value (Operand.func 75), args := #[Operand.tmp 62, Operand.tmp 63, Operand.tmp 64], argTypes := #[24, 51, 3] }) 22 ⟨_, rfl, rfl, rfl, rfl, rfl⟩ (by kernel_rfl) (fun K hK => ?_)
    unfold bareOp
    go_wp2_with (go_at_call 75; refine (rWithout1_any _ HH.out bb0 bbP HNN.out HPP.out HT1.out).mono ?_; rintro e w6 ⟨rfl, hb6⟩)
    replace F_g := Lib.hid (F_g.out.keep hb6)
    replace F_r := Lib.hid (F_r.out.keep hb6)
    replace F_s := Lib.hid (F_s.out.keep hb6)
    replace F_p := Lib.hid (F_p.out.keep hb6)
    replace HBW := Lib.hid (HBW.out.trans (hb6.mono HBW.out.size))
    replace hS := And.intro F_g.out.s (And.intro F_s.out.s F_p.out.s8)
    clear hb6
    refine hK.out _ _ (fun _ => hS) ?_
    clear hK K
    try simp only [Act.put, List.setIfInBounds_toArray, List.set_cons_zero, List.set_cons_succ]
    refine wpAnyB_only (i := 12) (some 68) (Op.call { callee := Callee.value (Operand.func 74), args := #[Operand.tmp 66, Operand.tmp 67], argTypes := #[24, 22] }) 22 ⟨_, rfl, rfl, rfl, rfl, rfl⟩ (by kernel_rfl) (fun K hK => ?_)
    unfold bareOp
    go_wp2_with (go_at_call 74; refine (rminus_any _ HH.out c0_ cQ HMI.out).mono ?_; rintro e w7 ⟨rfl, hb7⟩)
    replace F_g := Lib.hid (F_g.out.keep hb7)
    replace F_r := Lib.hid (F_r.out.keep hb7)
    replace F_s := Lib.hid (F_s.out.keep hb7)
    replace F_p := Lib.hid (F_p.out.keep hb7)
    replace HBW := Lib.hid (HBW.out.trans (hb7.mono HBW.out.size))
    replace hS := And.intro F_g.out.s (And.intro F_s.out.s F_p.out.s8)
    clear hb7
    refine hK.out _ _ (fun _ => hS) ?_
    clear hK K
    try simp only [Act.put, List.setIfInBounds_toArray, List.set_cons_zero, List.set_cons_succ]
    refine wpAnyB_only (i := 13) (some 69) (Op.call { callee := Callee.value (Operand.func 66), args := #[Operand.tmp 61, Operand.tmp 65, Operand.tmp 68], argTypes := #[24, 22, 22] }) 22 ⟨_, rfl, rfl, rfl, rfl, rfl⟩ (by kernel_rfl) (fun K hK => ?_)
    unfold bareOp
    go_wp2_with (go_at_call 66; refine (r31Power_any _ hP1 PM tj0 tjM UM.out HH2.out).mono ?_; rintro e w8 ⟨rfl, hb8⟩)
    replace F_g := Lib.hid (F_g.out.keep hb8)
    replace F_r := Lib.hid (F_r.out.keep hb8)
    replace F_s := Lib.hid (F_s.out.keep hb8)
    replace F_p := Lib.hid (F_p.out.keep hb8)
    replace HBW := Lib.hid (HBW.out.trans (hb8.mono HBW.out.size))
    replace hS := And.intro F_g.out.s (And.intro F_s.out.s F_p.out.s8)
    clear hb8
    refine hK.out _ _ (fun _ => hS) ?_
    clear hK K
    try simp only [Act.put, List.setIfInBounds_toArray, List.set_cons_zero, List.set_cons_succ]
    refine wpAnyB_takeP (i := 14) (some 70) (Op.binOp BinOp.mul 22 (Operand.tmp 60) (Operand.tmp 69) 22) 22 (v := ?_) ⟨_, rfl, rfl, rfl, rfl, rfl⟩ (by kernel_rfl) (by kernel_rfl) (by kernel_rfl) (by kernel_rfl) (fun _ _ _ h => h) (fun _ => hS) (fun w' => ?_) ?_
    rotate_left
    · unfold bareOp
      go_simp
      try with_reducible rfl
    simp only [Act.put, List.setIfInBounds_toArray, List.set_cons_zero, List.set_cons_succ]
    refine wpAnyB_takeP (i := 17) (some 73) (Op.binOp BinOp.rem 22 (Operand.tmp 70) (Operand.tmp 72) 22) 22 (v := ?_) ⟨_, rfl, rfl, rfl, rfl, rfl⟩ (by kernel_rfl) (by kernel_rfl) (by kernel_rfl) (by kernel_rfl) (fun _ _ _ h => h) (fun _ => hS) (fun w' => ?_) ?_
    rotate_left
    · unfold bareOp
      go_simp
      try with_reducible rfl
    simp only [Act.put, List.setIfInBounds_toArray, List.set_cons_zero, List.set_cons_succ]
    refine wpAnyB_takeP (i := 19) (some 75) (Op.indexAddr 52 (Operand.tmp 74) (Operand.tmp 56)) 0 (v := ?_) ⟨_, rfl, rfl, rfl, rfl, rfl⟩ (by kernel_rfl) (by kernel_rfl) (by kernel_rfl) (by kernel_rfl) (fun _ _ _ h => h) (fun _ => hS) (fun w' => ?_) ?_
    rotate_left
    · unfold bareOp
      go_simp
      try with_reducible rfl
    simp only [Act.put, List.setIfInBounds_toArray, List.set_cons_zero, List.set_cons_succ]
    refine wpAnyB_only (i := 20) none (Op.store 22 (Operand.tmp 75) (Operand.tmp 73)) 0 ⟨_, rfl, rfl, rfl, rfl, rfl⟩ (by kernel_rfl) (fun K hK => ?_)
    unfold bareOp
    obtain ⟨z0_, z1_, z2_, z3_, z4_, z5_, z6_, z7_, z8_, z9_, z10_, z11_, z12_, z13_, z14_, z15_⟩ := Arr.k8 F_p.out
    go_wp2_with fail
    refine hK.out _ _ (fun h => absurd (h.symm.trans (by kernel_rfl : _ = true)) (by decide)) ?_
    clear hK K
    try simp only [Act.put, List.setIfInBounds_toArray, List.set_cons_zero, List.set_cons_succ]
    refine wpAnyB_done (by kernel_rfl) ?_ _
    clear hS
    clear z0_ z1_ z2_ z3_ z4_ z5_ z6_ z7_ z8_ z9_ z10_ z11_ z12_ z13_ z14_ z15_
    have hbS := ((Below.refl Bp w8).setCell (p := ⟨Bp, 3, none⟩) (Nat.le_refl _) (.int .u64 Sj))
    replace F_g := Lib.hid (F_g.out.under hbS lt_g)
    replace F_r := Lib.hid (F_r.out.under hbS lt_r)
    replace F_s := Lib.hid (F_s.out.under hbS lt_s)
    replace F_p := Lib.hid (F_p.out.set (ys := [0, Rj, 0, Sj, 0, c, 0, z]) 3 (by simp) rfl)
    replace HBW := Lib.hid (HBW.out.trans (hbS.mono hle))
    clear hbS
    generalize (w8.setCell ⟨Bp, 3, none⟩ (.int .u64 Sj)) = wq2 at F_g F_r F_s F_p HBW ⊢
    obtain ⟨q1_0, q1_1, q1_2, q1_3, q1_4, q1_5, q1_6, q1_7, q1_8, q1_9, q1_10, q1_11, q1_12, q1_13, q1_14, q1_15⟩ := Arr.k8 F_r.out
    obtain ⟨q3_0, q3_1, q3_2, q3_3, q3_4, q3_5, q3_6, q3_7, q3_8, q3_9, q3_10, q3_11, q3_12, q3_13, q3_14, q3_15⟩ := Arr.k8 F_p.out
    obtain ⟨x0a, x0b, x0c, -⟩ := id F_g.out
    obtain ⟨x2a, x2b, x2c, x2d, -⟩ := id F_s.out
    go_wp2_with fail
    clear x0a x0b x0c x2a x2b x2c x2d q1_0 q1_1 q1_2 q1_3 q1_4 q1_5 q1_6 q1_7 q1_8 q1_9 q1_10 q1_11 q1_12 q1_13 q1_14 q1_15 q3_0 q3_1 q3_2 q3_3 q3_4 q3_5 q3_6 q3_7 q3_8 q3_9 q3_10 q3_11 q3_12 q3_13 q3_14 q3_15
    refine (r31Power_any _ hP1 PM hG GM UK.out HRM.out).mono ?_
    rintro e w9 ⟨rfl, hb9⟩
    replace F_g := Lib.hid (F_g.out.keep hb9)
    replace F_r := Lib.hid (F_r.out.keep hb9)
    replace F_s := Lib.hid (F_s.out.keep hb9)
    replace F_p := Lib.hid (F_p.out.keep hb9)
    replace HBW := Lib.hid (HBW.out.trans (hb9.mono HBW.out.size))
    clear hb9
    obtain ⟨q1_0, q1_1, q1_2, q1_3, q1_4, q1_5, q1_6, q1_7, q1_8, q1_9, q1_10, q1_11, q1_12, q1_13, q1_14, q1_15⟩ := Arr.k8 F_r.out
    obtain ⟨q3_0, q3_1, q3_2, q3_3, q3_4, q3_5, q3_6, q3_7, q3_8, q3_9, q3_10, q3_11, q3_12, q3_13, q3_14, q3_15⟩ := Arr.k8 F_p.out
    obtain ⟨x0a, x0b, x0c, -⟩ := id F_g.out
    obtain ⟨x2a, x2b, x2c, x2d, -⟩ := id F_s.out
    go_wp2_with fail
    clear x0a x0b x0c x2a x2b x2c x2d q1_0 q1_1 q1_2 q1_3 q1_4 q1_5 q1_6 q1_7 q1_8 q1_9 q1_10 q1_11 q1_12 q1_13 q1_14 q1_15 q3_0 q3_1 q3_2 q3_3 q3_4 q3_5 q3_6 q3_7 q3_8 q3_9 q3_10 q3_11 q3_12 q3_13 q3_14 q3_15
    have hbS := ((Below.refl Bp w9).setCell (p := ⟨Bp, 0, none⟩) (Nat.le_refl _) (.int .u64 Rm))
    replace F_g := Lib.hid (F_g.out.under hbS lt_g)
    replace F_r := Lib.hid (F_r.out.under hbS lt_r)
    replace F_s := Lib.hid (F_s.out.under hbS lt_s)
    replace F_p := Lib.hid (F_p.out.set (ys := [Rm, Rj, 0, Sj, 0, c, 0, z]) 0 (by simp) rfl)
    replace HBW := Lib.hid (HBW.out.trans (hbS.mono hle))
    clear hbS
    generalize (w9.setCell ⟨Bp, 0, none⟩ (.int .u64 Rm)) = wq3 at F_g F_r F_s F_p HBW ⊢
    refine (r31Power_any _ hP1 PM y0 yM UK.out HSM.out).mono ?_
    rintro e w10 ⟨rfl, hb10⟩
    replace F_g := Lib.hid (F_g.out.keep hb10)
    replace F_r := Lib.hid (F_r.out.keep hb10)
    replace F_s := Lib.hid (F_s.out.keep hb10)
    replace F_p := Lib.hid (F_p.out.keep hb10)
    replace HBW := Lib.hid (HBW.out.trans (hb10.mono HBW.out.size))
    clear hb10
    obtain ⟨q1_0, q1_1, q1_2, q1_3, q1_4, q1_5, q1_6, q1_7, q1_8, q1_9, q1_10, q1_11, q1_12, q1_13, q1_14, q1_15⟩ := Arr.k8 F_r.out
    obtain ⟨q3_0, q3_1, q3_2, q3_3, q3_4, q3_5, q3_6, q3_7, q3_8, q3_9, q3_10, q3_11, q3_12, q3_13, q3_14, q3_15⟩ := Arr.k8 F_p.out
    obtain ⟨x0a, x0b, x0c, -⟩ := id F_g.out
    obtain ⟨x2a, x2b, x2c, x2d, -⟩ := id F_s.out
    go_wp2_with fail
    clear x0a x0b x0c x2a x2b x2c x2d q1_0 q1_1 q1_2 q1_3 q1_4 q1_5 q1_6 q1_7 q1_8 q1_9 q1_10 q1_11 q1_12 q1_13 q1_14 q1_15 q3_0 q3_1 q3_2 q3_3 q3_4 q3_5 q3_6 q3_7 q3_8 q3_9 q3_10 q3_11 q3_12 q3_13 q3_14 q3_15
    have hbS := ((Below.refl Bp w10).setCell (p := ⟨Bp, 2, none⟩) (Nat.le_refl _) (.int .u64 Sm))
    replace F_g := Lib.hid (F_g.out.under hbS lt_g)
    replace F_r := Lib.hid (F_r.out.under hbS lt_r)
    replace F_s := Lib.hid (F_s.out.under hbS lt_s)
    replace F_p := Lib.hid (F_p.out.set (ys := [Rm, Rj, Sm, Sj, 0, c, 0, z]) 2 (by simp) rfl)
    replace HBW := Lib.hid (HBW.out.trans (hbS.mono hle))
    clear hbS
    generalize (w10.setCell ⟨Bp, 2, none⟩ (.int .u64 Sm)) = wq4 at F_g F_r F_s F_p HBW ⊢
    try go_wp2_with fail
    replace F_g := Lib.hid F_g.out.drew
    replace F_r := Lib.hid F_r.out.drew
    replace F_s := Lib.hid F_s.out.drew
    replace F_p := Lib.hid F_p.out.drew
    replace HBW := Lib.hid HBW.out.drew
    have hS := And.intro F_g.out.s (And.intro F_s.out.s F_p.out.s8)
    refine wp_region_stage 7 (fun w' => SBox w' w.heap.size P Q G ∧ SPair w' Bs a b ∧ S8 w' Bp Rm Rj Sm Sj 0 c 0 z) (by kernel_rfl) ?_
    refine wpAnyB_take (i := 0) (some 91) (Op.load 24 (Operand.tmp 8)) 24 (v := ?_) ⟨_, rfl, rfl, rfl, rfl, rfl⟩ (by kernel_rfl) (by kernel_rfl) (by kernel_rfl) [6, 7] (by kernel_rfl) (fun _ _ _ h => h) hS (fun w' hSw => ?_) ?_
    rotate_left
    · obtain ⟨⟨s0, s1, s2⟩, ⟨s3, s4⟩, ⟨s5, s6, s7, s8, s9, sa, sb, sc⟩⟩ := hSw
      unfold bareOp
      go_simp
      try with_reducible rfl
    simp only [Act.put, List.setIfInBounds_toArray, List.set_cons_zero, List.set_cons_succ]
    refine wpAnyB_takeP (i := 1) (some 92) (Op.move (Operand.tmp 1)) 22 (v := ?_) ⟨_, rfl, rfl, rfl, rfl, rfl⟩ (by kernel_rfl) (by kernel_rfl) (by kernel_rfl) (by kernel_rfl) (fun _ _ _ h => h) (fun _ => hS) (fun w' => ?_) ?_
    rotate_left
    · unfold bareOp
      go_simp
      try with_reducible rfl
    simp only [Act.put, List.setIfInBounds_toArray, List.set_cons_zero, List.set_cons_succ]
    refine wpAnyB_take (i := 2) (some 93) (Op.load 51 (Operand.tmp 17)) 51 (v := ?_) ⟨_, rfl, rfl, rfl, rfl, rfl⟩ (by kernel_rfl) (by kernel_rfl) (by kernel_rfl) [4, 6, 7] (by kernel_rfl) (fun _ _ _ h => h) hS (fun w' hSw => ?_) ?_
    rotate_left
    · obtain ⟨⟨s0, s1, s2⟩, ⟨s3, s4⟩, ⟨s5, s6, s7, s8, s9, sa, sb, sc⟩⟩ := hSw
      unfold bareOp
      go_simp
      try with_reducible rfl
    simp only [Act.put, List.setIfInBounds_toArray, List.set_cons_zero, List.set_cons_succ]
    refine wpAnyB_take (i := 3) (some 94) (Op.load 54 (Operand.tmp 19)) 54 (v := ?_) ⟨_, rfl, rfl, rfl, rfl, rfl⟩ (by kernel_rfl) (by kernel_rfl) (by kernel_rfl) [4, 6, 7] (by kernel_rfl) (fun _ _ _ h => h) hS (fun w' hSw => ?_) ?_
    rotate_left
    · obtain ⟨⟨s0, s1, s2⟩, ⟨s3, s4⟩, ⟨s5, s6, s7, s8, s9, sa, sb, sc⟩⟩ := hSw
      unfold bareOp
      go_simp
      try with_reducible rfl
    simp only [Act.put, List.setIfInBounds_toArray, List.set_cons_zero, List.set_cons_succ]
    refine wpAnyB_takeP (i := 5) (some 96) (Op.move (Operand.tmp 7)) 27 (v := ?_) ⟨_, rfl, rfl, rfl, rfl, rfl⟩ (by kernel_rfl) (by kernel_rfl) (by kernel_rfl) (by kernel_rfl) (fun _ _ _ h => h) (fun _ => hS) (fun w' => ?_) ?_
    rotate_left
    · unfold bareOp
      go_simp
      try with_reducible rfl
    simp only [Act.put, List.setIfInBounds_toArray, List.set_cons_zero, List.set_cons_succ]
    refine wpAnyB_only (i := 4) (some 95) (Op.call { callee := Callee.value (Operand.func 76), args := #[Operand.tmp 92, Operand.tmp 93, Operand.tmp 94], argTypes := #[22, 51, 54] }) 42 ⟨_, rfl, rfl, rfl, rfl, rfl⟩ (by kernel_rfl) (fun K hK => ?_)
    unfold bareOp
    go_wp2_with (go_at_call 76; refine (rlist_any _).mono ?_; rintro e w11 ⟨BL, rfl, hms, hb11⟩)
    replace F_g := Lib.hid (F_g.out.keep hb11)
    replace F_r := Lib.hid (F_r.out.keep hb11)
    replace F_s := Lib.hid (F_s.out.keep hb11)
    replace F_p := Lib.hid (F_p.out.keep hb11)
    have F_ms := Lib.hid hms
    replace HBW := Lib.hid (HBW.out.trans (hb11.mono HBW.out.size))
    replace hS := And.intro F_g.out.s (And.intro F_s.out.s F_p.out.s8)
    clear hb11
    refine hK.out _ _ (fun _ => hS) ?_
    clear hK K
    try simp only [Act.put, List.setIfInBounds_toArray, List.set_cons_zero, List.set_cons_succ]
    refine wpAnyB_only (i := 6) (some 97) (Op.call { callee := Callee.value (Operand.func 67), args := #[Operand.tmp 91, Operand.tmp 95, Operand.tmp 96], argTypes := #[24, 42, 27] }) 22 ⟨_, rfl, rfl, rfl, rfl, rfl⟩ (by kernel_rfl) (fun K hK => ?_)
    unfold bareOp
    go_wp2_with (go_at_call 67; refine (rOf31_any _ (HT.out.keep HBW.out) HH.out F_ms.out HUS.out (by simp) (by simp) (by omega) HTT.out).mono ?_; rintro e w12 ⟨rfl, hb12⟩)
    replace F_g := Lib.hid (F_g.out.keep hb12)
    replace F_r := Lib.hid (F_r.out.keep hb12)
    replace F_s := Lib.hid (F_s.out.keep hb12)
    replace F_p := Lib.hid (F_p.out.keep hb12)
    replace HBW := Lib.hid (HBW.out.trans (hb12.mono HBW.out.size))
    replace hS := And.intro F_g.out.s (And.intro F_s.out.s F_p.out.s8)
    clear hb12
    refine hK.out _ _ (fun _ => hS) ?_
    clear hK K
    try simp only [Act.put, List.setIfInBounds_toArray, List.set_cons_zero, List.set_cons_succ]
    refine wpAnyB_only (i := 7) (some 20) (Op.assign (Operand.tmp 97)) 22 ⟨_, rfl, rfl, rfl, rfl, rfl⟩ (by kernel_rfl) (fun K hK => ?_)
    unfold bareOp
    go_wp2_with fail
    refine hK.out _ _ (fun h => absurd (h.symm.trans (by kernel_rfl : _ = true)) (by decide)) ?_
    clear hK K
    try simp only [Act.put, List.setIfInBounds_toArray, List.set_cons_zero, List.set_cons_succ]
    refine wpAnyB_done (by kernel_rfl) ?_ _
    clear hS
    clear F_ms hms
    obtain ⟨q1_0, q1_1, q1_2, q1_3, q1_4, q1_5, q1_6, q1_7, q1_8, q1_9, q1_10, q1_11, q1_12, q1_13, q1_14, q1_15⟩ := Arr.k8 F_r.out
    obtain ⟨q3_0, q3_1, q3_2, q3_3, q3_4, q3_5, q3_6, q3_7, q3_8, q3_9, q3_10, q3_11, q3_12, q3_13, q3_14, q3_15⟩ := Arr.k8 F_p.out
    obtain ⟨x0a, x0b, x0c, -⟩ := id F_g.out
    obtain ⟨x2a, x2b, x2c, x2d, -⟩ := id F_s.out
    go_wp2_with fail
    clear x0a x0b x0c x2a x2b x2c x2d q1_0 q1_1 q1_2 q1_3 q1_4 q1_5 q1_6 q1_7 q1_8 q1_9 q1_10 q1_11 q1_12 q1_13 q1_14 q1_15 q3_0 q3_1 q3_2 q3_3 q3_4 q3_5 q3_6 q3_7 q3_8 q3_9 q3_10 q3_11 q3_12 q3_13 q3_14 q3_15
    refine (rDiff_gen _ HH.out tot0 totQ c0_ cQ HCM.out).mono ?_
    rintro e w13 ⟨rfl, hb13⟩
    replace F_g := Lib.hid (F_g.out.keep hb13)
    replace F_r := Lib.hid (F_r.out.keep hb13)
    replace F_s := Lib.hid (F_s.out.keep hb13)
    replace F_p := Lib.hid (F_p.out.keep hb13)
    replace HBW := Lib.hid (HBW.out.trans (hb13.mono HBW.out.size))
    clear hb13
    obtain ⟨q1_0, q1_1, q1_2, q1_3, q1_4, q1_5, q1_6, q1_7, q1_8, q1_9, q1_10, q1_11, q1_12, q1_13, q1_14, q1_15⟩ := Arr.k8 F_r.out
    obtain ⟨q3_0, q3_1, q3_2, q3_3, q3_4, q3_5, q3_6, q3_7, q3_8, q3_9, q3_10, q3_11, q3_12, q3_13, q3_14, q3_15⟩ := Arr.k8 F_p.out
    obtain ⟨x0a, x0b, x0c, -⟩ := id F_g.out
    obtain ⟨x2a, x2b, x2c, x2d, -⟩ := id F_s.out
    go_wp2_with fail
    clear x0a x0b x0c x2a x2b x2c x2d q1_0 q1_1 q1_2 q1_3 q1_4 q1_5 q1_6 q1_7 q1_8 q1_9 q1_10 q1_11 q1_12 q1_13 q1_14 q1_15 q3_0 q3_1 q3_2 q3_3 q3_4 q3_5 q3_6 q3_7 q3_8 q3_9 q3_10 q3_11 q3_12 q3_13 q3_14 q3_15
    have hbS := ((Below.refl Bp w13).setCell (p := ⟨Bp, 4, none⟩) (Nat.le_refl _) (.int .u64 Cm))
    replace F_g := Lib.hid (F_g.out.under hbS lt_g)
    replace F_r := Lib.hid (F_r.out.under hbS lt_r)
    replace F_s := Lib.hid (F_s.out.under hbS lt_s)
    replace F_p := Lib.hid (F_p.out.set (ys := [Rm, Rj, Sm, Sj, Cm, c, 0, z]) 4 (by simp) rfl)
    replace HBW := Lib.hid (HBW.out.trans (hbS.mono hle))
    clear hbS
    generalize (w13.setCell ⟨Bp, 4, none⟩ (.int .u64 Cm)) = wq5 at F_g F_r F_s F_p HBW ⊢
    try go_wp2_with fail
    replace F_g := Lib.hid F_g.out.drew
    replace F_r := Lib.hid F_r.out.drew
    replace F_s := Lib.hid F_s.out.drew
    replace F_p := Lib.hid F_p.out.drew
    replace HBW := Lib.hid HBW.out.drew
    have hS := And.intro F_g.out.s (And.intro F_s.out.s F_p.out.s8)
    refine wp_region_stage 11 (fun w' => SBox w' w.heap.size P Q G ∧ SPair w' Bs a b ∧ S8 w' Bp Rm Rj Sm Sj Cm c 0 z) (by kernel_rfl) ?_
    refine wpAnyB_takeP (i := 0) (some 105) (Op.move (Operand.tmp 2)) 3 (v := ?_) ⟨_, rfl, rfl, rfl, rfl, rfl⟩ (by kernel_rfl) (by kernel_rfl) (by kernel_rfl) (by kernel_rfl) (fun _ _ _ h => h) (fun _ => hS) (fun w' => ?_) ?_
    rotate_left
    · unfold bareOp
      go_simp
      try with_reducible rfl
    simp only [Act.put, List.setIfInBounds_toArray, List.set_cons_zero, List.set_cons_succ]
    refine wpAnyB_take (i := 1) (some 106) (Op.load 24 (Operand.tmp 8)) 24 (v := ?_) ⟨_, rfl, rfl, rfl, rfl, rfl⟩ (by kernel_rfl) (by kernel_rfl) (by kernel_rfl) [8, 10, 11] (by kernel_rfl) (fun _ _ _ h => h) hS (fun w' hSw => ?_) ?_
    rotate_left
    · obtain ⟨⟨s0, s1, s2⟩, ⟨s3, s4⟩, ⟨s5, s6, s7, s8, s9, sa, sb, sc⟩⟩ := hSw
      unfold bareOp
      go_simp
      try with_reducible rfl
    simp only [Act.put, List.setIfInBounds_toArray, List.set_cons_zero, List.set_cons_succ]
    refine wpAnyB_takeP (i := 2) (some 107) (Op.move (Operand.tmp 3)) 22 (v := ?_) ⟨_, rfl, rfl, rfl, rfl, rfl⟩ (by kernel_rfl) (by kernel_rfl) (by kernel_rfl) (by kernel_rfl) (fun _ _ _ h => h) (fun _ => hS) (fun w' => ?_) ?_
    rotate_left
    · unfold bareOp
      go_simp
      try with_reducible rfl
    simp only [Act.put, List.setIfInBounds_toArray, List.set_cons_zero, List.set_cons_succ]
    refine wpAnyB_takeP (i := 3) (some 108) (Op.move (Operand.tmp 4)) 22 (v := ?_) ⟨_, rfl, rfl, rfl, rfl, rfl⟩ (by kernel_rfl) (by kernel_rfl) (by kernel_rfl) (by kernel_rfl) (fun _ _ _ h => h) (fun _ => hS) (fun w' => ?_) ?_
    rotate_left
    · unfold bareOp
      go_simp
      try with_reducible rfl
    simp only [Act.put, List.setIfInBounds_toArray, List.set_cons_zero, List.set_cons_succ]
    refine wpAnyB_takeP (i := 4) (some 109) (Op.move (Operand.tmp 2)) 3 (v := ?_) ⟨_, rfl, rfl, rfl, rfl, rfl⟩ (by kernel_rfl) (by kernel_rfl) (by kernel_rfl) (by kernel_rfl) (fun _ _ _ h => h) (fun _ => hS) (fun w' => ?_) ?_
    rotate_left
    · unfold bareOp
      go_simp
      try with_reducible rfl
    simp only [Act.put, List.setIfInBounds_toArray, List.set_cons_zero, List.set_cons_succ]
    refine wpAnyB_takeP (i := 5) (some 110) (Op.fieldAddr 54 (Operand.tmp 19) 2) 0 (v := ?_) ⟨_, rfl, rfl, rfl, rfl, rfl⟩ (by kernel_rfl) (by kernel_rfl) (by kernel_rfl) (by kernel_rfl) (fun _ _ _ h => h) (fun _ => hS) (fun w' => ?_) ?_
    rotate_left
    · unfold bareOp
      go_simp
      try with_reducible rfl
    simp only [Act.put, List.setIfInBounds_toArray, List.set_cons_zero, List.set_cons_succ]
    refine wpAnyB_takeP (i := 6) (some 111) (Op.indexAddr 52 (Operand.tmp 110) (Operand.tmp 109)) 0 (v := ?_) ⟨_, rfl, rfl, rfl, rfl, rfl⟩ (by kernel_rfl) (by kernel_rfl) (by kernel_rfl) (by kernel_rfl) (fun _ _ _ h => h) (fun _ => hS) (fun w' => ?_) ?_
    rotate_left
    · unfold bareOp
      go_simp
      try with_reducible rfl
    simp only [Act.put, List.setIfInBounds_toArray, List.set_cons_zero, List.set_cons_succ]
    refine wpAnyB_take (i := 7) (some 112) (Op.load 22 (Operand.tmp 111)) 22 (v := ?_) ⟨_, rfl, rfl, rfl, rfl, rfl⟩ (by kernel_rfl) (by kernel_rfl) (by kernel_rfl) [8, 10, 11] (by kernel_rfl) (fun _ _ _ h => h) hS (fun w' hSw => ?_) ?_
    rotate_left
    · obtain ⟨⟨s0, s1, s2⟩, ⟨s3, s4⟩, ⟨s5, s6, s7, s8, s9, sa, sb, sc⟩⟩ := hSw
      unfold bareOp
      go_simp
      try with_reducible rfl
    simp only [Act.put, List.setIfInBounds_toArray, List.set_cons_zero, List.set_cons_succ]
    refine wpAnyB_takeP (i := 9) (some 114) (Op.fieldAddr 54 (Operand.tmp 19) 3) 0 (v := ?_) ⟨_, rfl, rfl, rfl, rfl, rfl⟩ (by kernel_rfl) (by kernel_rfl) (by kernel_rfl) (by kernel_rfl) (fun _ _ _ h => h) (fun _ => hS) (fun w' => ?_) ?_
    rotate_left
    · unfold bareOp
      go_simp
      try with_reducible rfl
    simp only [Act.put, List.setIfInBounds_toArray, List.set_cons_zero, List.set_cons_succ]
    refine wpAnyB_only (i := 8) (some 113) (Op.call { callee := Callee.value (Operand.func 68), args := #[Operand.tmp 106, Operand.tmp 107, Operand.tmp 108, Operand.tmp 112], argTypes := #[24, 22, 22, 22] }) 22 ⟨_, rfl, rfl, rfl, rfl, rfl⟩ (by kernel_rfl) (fun K hK => ?_)
    unfold bareOp
    go_wp2_with (go_at_call 68; refine (rtold_any _ HH.out r0_ rQ k0_ kQ cm0 cmQ HMM.out HZM.out).mono ?_; rintro e w14 ⟨rfl, hb14⟩)
    replace F_g := Lib.hid (F_g.out.keep hb14)
    replace F_r := Lib.hid (F_r.out.keep hb14)
    replace F_s := Lib.hid (F_s.out.keep hb14)
    replace F_p := Lib.hid (F_p.out.keep hb14)
    replace HBW := Lib.hid (HBW.out.trans (hb14.mono HBW.out.size))
    replace hS := And.intro F_g.out.s (And.intro F_s.out.s F_p.out.s8)
    clear hb14
    refine hK.out _ _ (fun _ => hS) ?_
    clear hK K
    try simp only [Act.put, List.setIfInBounds_toArray, List.set_cons_zero, List.set_cons_succ]
    refine wpAnyB_takeP (i := 10) (some 115) (Op.indexAddr 52 (Operand.tmp 114) (Operand.tmp 105)) 0 (v := ?_) ⟨_, rfl, rfl, rfl, rfl, rfl⟩ (by kernel_rfl) (by kernel_rfl) (by kernel_rfl) (by kernel_rfl) (fun _ _ _ h => h) (fun _ => hS) (fun w' => ?_) ?_
    rotate_left
    · unfold bareOp
      go_simp
      try with_reducible rfl
    simp only [Act.put, List.setIfInBounds_toArray, List.set_cons_zero, List.set_cons_succ]
    refine wpAnyB_only (i := 11) none (Op.store 22 (Operand.tmp 115) (Operand.tmp 113)) 0 ⟨_, rfl, rfl, rfl, rfl, rfl⟩ (by kernel_rfl) (fun K hK => ?_)
    unfold bareOp
    obtain ⟨z0_, z1_, z2_, z3_, z4_, z5_, z6_, z7_, z8_, z9_, z10_, z11_, z12_, z13_, z14_, z15_⟩ := Arr.k8 F_p.out
    go_wp2_with fail
    refine hK.out _ _ (fun h => absurd (h.symm.trans (by kernel_rfl : _ = true)) (by decide)) ?_
    clear hK K
    try simp only [Act.put, List.setIfInBounds_toArray, List.set_cons_zero, List.set_cons_succ]
    refine wpAnyB_done (by kernel_rfl) ?_ _
    clear hS
    clear z0_ z1_ z2_ z3_ z4_ z5_ z6_ z7_ z8_ z9_ z10_ z11_ z12_ z13_ z14_ z15_
    have hbS := ((Below.refl Bp w14).setCell (p := ⟨Bp, 6, none⟩) (Nat.le_refl _) (.int .u64 Zm))
    replace F_g := Lib.hid (F_g.out.under hbS lt_g)
    replace F_r := Lib.hid (F_r.out.under hbS lt_r)
    replace F_s := Lib.hid (F_s.out.under hbS lt_s)
    replace F_p := Lib.hid (F_p.out.set (ys := [Rm, Rj, Sm, Sj, Cm, c, Zm, z]) 6 (by simp) rfl)
    replace HBW := Lib.hid (HBW.out.trans (hbS.mono hle))
    clear hbS
    generalize (w14.setCell ⟨Bp, 6, none⟩ (.int .u64 Zm)) = wq6 at F_g F_r F_s F_p HBW ⊢
    obtain ⟨q1_0, q1_1, q1_2, q1_3, q1_4, q1_5, q1_6, q1_7, q1_8, q1_9, q1_10, q1_11, q1_12, q1_13, q1_14, q1_15⟩ := Arr.k8 F_r.out
    obtain ⟨q3_0, q3_1, q3_2, q3_3, q3_4, q3_5, q3_6, q3_7, q3_8, q3_9, q3_10, q3_11, q3_12, q3_13, q3_14, q3_15⟩ := Arr.k8 F_p.out
    obtain ⟨x0a, x0b, x0c, -⟩ := id F_g.out
    obtain ⟨x2a, x2b, x2c, x2d, -⟩ := id F_s.out
    go_wp2_with fail
    clear x0a x0b x0c x2a x2b x2c x2d q1_0 q1_1 q1_2 q1_3 q1_4 q1_5 q1_6 q1_7 q1_8 q1_9 q1_10 q1_11 q1_12 q1_13 q1_14 q1_15 q3_0 q3_1 q3_2 q3_3 q3_4 q3_5 q3_6 q3_7 q3_8 q3_9 q3_10 q3_11 q3_12 q3_13 q3_14 q3_15
    exact bodyPost_ret (res_bit1 rfl (F_r.out.st8 Rm Rj Sm Sj Cm c Zm z) _ rfl) rfl ⟨rfl, ((((((((HBW.out).setCell (by simp <;> omega) _).setCell (by simp <;> omega) _).setCell (by simp <;> omega) _).setCell (by simp <;> omega) _).setCell (by simp <;> omega) _).setCell (by simp <;> omega) _).setCell (by simp <;> omega) _).setCell (by simp <;> omega) _⟩
  · skip
    obtain ⟨a, b, nn, pp, t1, mi, g1, g2, Rj, h1, h2, Sj, Rm, Sm, tot, Cm, Zm, ha, hb, hnn, hpp, ht1, hmi, hg1, hg2, hrj, hh1, hh2, hsj, hrm, hsm, htt, hcm, hzm, hf⟩ := hZ
    rw [if_neg (by decide)] at hh2 htt hf
    obtain ⟨q1, q2, q3_, q4, q5, q6, q7, q8⟩ := hf
    replace q1 := q1.symm
    subst q1
    replace q2 := q2.symm
    subst q2
    replace q3_ := q3_.symm
    subst q3_
    replace q4 := q4.symm
    subst q4
    replace q5 := q5.symm
    subst q5
    replace q6 := q6.symm
    subst q6
    replace q7 := q7.symm
    subst q7
    replace q8 := q8.symm
    subst q8
    have y0_ := y0
    have aa0 : 0 ≤ a := by rw [← ha]; exact powm_nonneg (by omega)
    have aaP : a < P := by rw [← ha]; exact powm_lt (by omega)
    have bb0 : 0 ≤ b := by rw [← hb]; exact Int.emod_nonneg _ (by omega)
    have bbP : b < P := by rw [← hb]; exact Int.emod_lt_of_pos _ (by omega)
    have t10 : 0 ≤ t1 := by rw [← ht1]; exact Int.emod_nonneg _ (by omega)
    have t1P : t1 < P := by rw [← ht1]; exact Int.emod_lt_of_pos _ (by omega)
    have tj0 : 0 ≤ b := by assumption
    have tjP : b < P := by assumption
    have mi0 : 0 ≤ mi := by rw [← hmi]; exact Int.emod_nonneg _ (by omega)
    have miQ : mi < Q := by rw [← hmi]; exact Int.emod_lt_of_pos _ (by omega)
    have g10 : 0 ≤ g1 := by rw [← hg1]; exact powm_nonneg (by omega)
    have g1P : g1 < P := by rw [← hg1]; exact powm_lt (by omega)
    have g20 : 0 ≤ g2 := by rw [← hg2]; exact powm_nonneg (by omega)
    have g2P : g2 < P := by rw [← hg2]; exact powm_lt (by omega)
    have h10 : 0 ≤ h1 := by rw [← hh1]; exact powm_nonneg (by omega)
    have h1P : h1 < P := by rw [← hh1]; exact powm_lt (by omega)
    have h20 : 0 ≤ h2 := by rw [← hh2]; exact powm_nonneg (by omega)
    have h2P : h2 < P := by rw [← hh2]; exact powm_lt (by omega)
    have rj0 : 0 ≤ Rj := by rw [← hrj]; exact Int.emod_nonneg _ (by omega)
    have rjP : Rj < P := by rw [← hrj]; exact Int.emod_lt_of_pos _ (by omega)
    have sj0 : 0 ≤ Sj := by rw [← hsj]; exact Int.emod_nonneg _ (by omega)
    have sjP : Sj < P := by rw [← hsj]; exact Int.emod_lt_of_pos _ (by omega)
    have rm0 : 0 ≤ Rm := by rw [← hrm]; exact powm_nonneg (by omega)
    have rmP : Rm < P := by rw [← hrm]; exact powm_lt (by omega)
    have sm0 : 0 ≤ Sm := by rw [← hsm]; exact powm_nonneg (by omega)
    have smP : Sm < P := by rw [← hsm]; exact powm_lt (by omega)
    obtain ⟨tot0, totQ⟩ : 0 ≤ tot ∧ tot < Q := by rw [← htt]; exact chV_range (by omega) _ _
    have cm0 : 0 ≤ Cm := by rw [← hcm]; exact Int.emod_nonneg _ (by omega)
    have cmQ : Cm < Q := by rw [← hcm]; exact Int.emod_lt_of_pos _ (by omega)
    have UZ := Lib.hid (U64.of_lt z0_ (by omega))
    have UK := Lib.hid (U64.of_lt k0_ (by omega))
    have UM := Lib.hid (U64.of_lt mi0 (by omega))
    have HUS := Lib.hid (show ∀ x, x ∈ [y, a, b, Rj, Sj, Rm, Sm] → U64 x from fun x hx => by
      simp at hx
      rcases hx with rfl | rfl | rfl | rfl | rfl | rfl | rfl <;> exact U64.of_lt (by assumption) (by omega))
    have HA := Lib.hid ha
    have HB := Lib.hid hb
    have HNN := Lib.hid hnn
    have HPP := Lib.hid hpp
    have HT1 := Lib.hid ht1
    have HMI := Lib.hid hmi
    have HG1 := Lib.hid hg1
    have HG2 := Lib.hid hg2
    have HRJ := Lib.hid hrj
    have HH1 := Lib.hid hh1
    have HH2 := Lib.hid hh2
    have HSJ := Lib.hid hsj
    have HRM := Lib.hid hrm
    have HSM := Lib.hid hsm
    have HTT := Lib.hid htt
    have HCM := Lib.hid hcm
    have HZS := Lib.hid (show RetS (askS P Q G [r, k, Cm] []) ((k + Cm * r % Q) % Q) Zm 0 from .inl ⟨askS_ok HH.out (by simp; omega) (by simp), hzm.symm, rfl⟩)
    obtain ⟨k1, k2⟩ := mul_bound g10 (show g1 < 2147483648 by omega) g20 (show g2 < 2147483648 by omega)
    have k3 := wrap_u k1 (by omega)
    have k4 : (g1 * g2).tmod P = Rj := (tmod_u k1).trans hrj
    have k7 := wrap_u rj0 (by omega)
    obtain ⟨l1, l2⟩ := mul_bound h10 (show h1 < 2147483648 by omega) h20 (show h2 < 2147483648 by omega)
    have l3 := wrap_u l1 (by omega)
    have l4 : (h1 * h2).tmod P = Sj := (tmod_u l1).trans hsj
    have l7 := wrap_u sj0 (by omega)
    have k8 : ¬ P = 0 := by omega
    have PM : P < 2147483648 := by omega
    have hG : 0 ≤ G := by omega
    have GM : G < 2147483648 := by omega
    have yM : y < 2147483648 := by omega
    have aaM : a < 2147483648 := by omega
    have tjM : b < 2147483648 := by omega
    obtain ⟨pz, hpz⟩ : ∃ pz, powm G 0 P = pz := ⟨_, rfl⟩
    have HPZ := Lib.hid hpz
    have HBZ := Lib.hid (show b * pz % P = b by rw [← hpz, powm_zero_one (by omega), Int.mul_one]; exact Int.emod_eq_of_lt bb0 bbP)
    obtain ⟨mm, hmm⟩ : ∃ mm, Cm * r % Q = mm := ⟨_, rfl⟩
    have HMM := Lib.hid hmm
    have HZM := Lib.hid (show (k + mm) % Q = Zm by rw [← hmm]; exact hzm)
    clear hpz hmm
    clear y0_ ha hb hnn hpp ht1 hmi hg1 hg2 hrj hh1 hh2 hsj hrm hsm htt hcm hzm
    have F_g := Lib.hid (show Boxed ((w.alloc (.cells #[.int .u64 P, .int .u64 Q, .int .u64 G] 24)).alloc (.cells #[.int .u64 0, .int .u64 0, .int .u64 0, .int .u64 0, .int .u64 0, .int .u64 0, .int .u64 0, .int .u64 0] 54)) (w.heap.size) P Q G from (Boxed.at _ P Q G _ (w.heap.size) (by simp)).alloc _)
    have F_r := Lib.hid (show Arr .u64 ((w.alloc (.cells #[.int .u64 P, .int .u64 Q, .int .u64 G] 24)).alloc (.cells #[.int .u64 0, .int .u64 0, .int .u64 0, .int .u64 0, .int .u64 0, .int .u64 0, .int .u64 0, .int .u64 0] 54)) (w.heap.size + 1) [0, 0, 0, 0, 0, 0, 0, 0] from Arr.new .u64 _ [0, 0, 0, 0, 0, 0, 0, 0] _ (w.heap.size + 1) (by simp))
    have HBW := Lib.hid (show Below w.heap.size w ((w.alloc (.cells #[.int .u64 P, .int .u64 Q, .int .u64 G] 24)).alloc (.cells #[.int .u64 0, .int .u64 0, .int .u64 0, .int .u64 0, .int .u64 0, .int .u64 0, .int .u64 0, .int .u64 0] 54)) from ((Below.refl _ _).alloc (by simp <;> omega) _).alloc (by simp <;> omega) _)
    go_enter Tryd.func56, Tryd.ntmps56
    obtain ⟨q1_0, q1_1, q1_2, q1_3, q1_4, q1_5, q1_6, q1_7, q1_8, q1_9, q1_10, q1_11, q1_12, q1_13, q1_14, q1_15⟩ := Arr.k8 F_r.out
    obtain ⟨x0a, x0b, x0c, -⟩ := id F_g.out
    go_wp2_with fail
    clear x0a x0b x0c q1_0 q1_1 q1_2 q1_3 q1_4 q1_5 q1_6 q1_7 q1_8 q1_9 q1_10 q1_11 q1_12 q1_13 q1_14 q1_15
    refine (rMake_any _ HH.out y0 yP (by omega) (by omega) r0_ rQ HA.out HB.out).mono ?_
    rintro e w1 ⟨rfl, hb1⟩
    replace F_g := Lib.hid (F_g.out.keep hb1)
    replace F_r := Lib.hid (F_r.out.keep hb1)
    replace HBW := Lib.hid (HBW.out.trans (hb1.mono HBW.out.size))
    clear hb1
    have lt_g0 := F_g.out.lt
    have lt_r0 := F_r.out.lt
    obtain ⟨q1_0, q1_1, q1_2, q1_3, q1_4, q1_5, q1_6, q1_7, q1_8, q1_9, q1_10, q1_11, q1_12, q1_13, q1_14, q1_15⟩ := Arr.k8 F_r.out
    obtain ⟨x0a, x0b, x0c, -⟩ := id F_g.out
    go_wp2_with fail
    clear x0a x0b x0c q1_0 q1_1 q1_2 q1_3 q1_4 q1_5 q1_6 q1_7 q1_8 q1_9 q1_10 q1_11 q1_12 q1_13 q1_14 q1_15
    replace F_g := Lib.hid (F_g.out.alloc (.cells #[.int .u64 a, .int .u64 b] 51))
    replace F_r := Lib.hid (F_r.out.alloc (.cells #[.int .u64 a, .int .u64 b] 51))
    have F_s := Lib.hid (Pair.new w1 a b 51)
    replace HBW := Lib.hid (HBW.out.alloc HBW.out.size (.cells #[.int .u64 a, .int .u64 b] 51))
    replace F_g := Lib.hid (F_g.out.alloc (.cells #[.int .u64 0, .int .u64 0, .int .u64 0, .int .u64 0, .int .u64 c, .int .u64 0, .int .u64 z, .int .u64 0] 54))
    replace F_r := Lib.hid (F_r.out.alloc (.cells #[.int .u64 0, .int .u64 0, .int .u64 0, .int .u64 0, .int .u64 c, .int .u64 0, .int .u64 z, .int .u64 0] 54))
    replace F_s := Lib.hid (F_s.out.alloc (.cells #[.int .u64 0, .int .u64 0, .int .u64 0, .int .u64 0, .int .u64 c, .int .u64 0, .int .u64 z, .int .u64 0] 54))
    have F_p := Lib.hid (show Arr .u64 ((w1.alloc (.cells #[.int .u64 a, .int .u64 b] 51)).alloc (.cells #[.int .u64 0, .int .u64 0, .int .u64 0, .int .u64 0, .int .u64 c, .int .u64 0, .int .u64 z, .int .u64 0] 54)) ((w1.alloc (.cells #[.int .u64 a, .int .u64 b] 51)).heap.size) [0, 0, 0, 0, c, 0, z, 0] from Arr.new .u64 (w1.alloc (.cells #[.int .u64 a, .int .u64 b] 51)) [0, 0, 0, 0, c, 0, z, 0] _ _ rfl)
    replace HBW := Lib.hid (HBW.out.alloc HBW.out.size (.cells #[.int .u64 0, .int .u64 0, .int .u64 0, .int .u64 0, .int .u64 c, .int .u64 0, .int .u64 z, .int .u64 0] 54))
    generalize ((w1.alloc (.cells #[.int .u64 a, .int .u64 b] 51)).alloc (.cells #[.int .u64 0, .int .u64 0, .int .u64 0, .int .u64 0, .int .u64 c, .int .u64 0, .int .u64 z, .int .u64 0] 54)) = wp at F_g F_r F_s F_p HBW ⊢
    try simp only [World.size_alloc] at F_p
    have lt_g : w.heap.size < w1.heap.size + 1 := by omega
    have lt_r : w.heap.size + 1 < w1.heap.size + 1 := by omega
    have lt_s : w1.heap.size < w1.heap.size + 1 := by omega
    generalize hbp : w1.heap.size + 1 = Bp at F_p lt_g lt_r lt_s ⊢
    generalize hbs : w1.heap.size = Bs at F_s lt_s ⊢
    clear hbp hbs lt_g0 lt_r0
    have hle : w.heap.size ≤ Bp := Nat.le_of_lt lt_g
    go_wp2_with fail
    replace F_g := Lib.hid F_g.out.drew
    replace F_r := Lib.hid F_r.out.drew
    replace F_s := Lib.hid F_s.out.drew
    replace F_p := Lib.hid F_p.out.drew
    replace HBW := Lib.hid HBW.out.drew
    have hS := And.intro F_g.out.s (And.intro F_s.out.s F_p.out.s8)
    refine wp_region_stage 19 (fun w' => SBox w' w.heap.size P Q G ∧ SPair w' Bs a b ∧ S8 w' Bp 0 0 0 0 c 0 z 0) (by kernel_rfl) ?_
    refine wpAnyB_takeP (i := 0) (some 37) (Op.move (Operand.tmp 18)) 3 (v := ?_) ⟨_, rfl, rfl, rfl, rfl, rfl⟩ (by kernel_rfl) (by kernel_rfl) (by kernel_rfl) (by kernel_rfl) (fun _ _ _ h => h) (fun _ => hS) (fun w' => ?_) ?_
    rotate_left
    · unfold bareOp
      go_simp
      try with_reducible rfl
    simp only [Act.put, List.setIfInBounds_toArray, List.set_cons_zero, List.set_cons_succ]
    refine wpAnyB_take (i := 1) (some 38) (Op.load 24 (Operand.tmp 8)) 24 (v := ?_) ⟨_, rfl, rfl, rfl, rfl, rfl⟩ (by kernel_rfl) (by kernel_rfl) (by kernel_rfl) [5, 11, 12, 13, 16, 18, 19] (by kernel_rfl) (fun _ _ _ h => h) hS (fun w' hSw => ?_) ?_
    rotate_left
    · obtain ⟨⟨s0, s1, s2⟩, ⟨s3, s4⟩, ⟨s5, s6, s7, s8, s9, sa, sb, sc⟩⟩ := hSw
      unfold bareOp
      go_simp
      try with_reducible rfl
    simp only [Act.put, List.setIfInBounds_toArray, List.set_cons_zero, List.set_cons_succ]
    refine wpAnyB_takeP (i := 2) (some 39) (Op.fieldAddr 24 (Operand.tmp 8) 2) 0 (v := ?_) ⟨_, rfl, rfl, rfl, rfl, rfl⟩ (by kernel_rfl) (by kernel_rfl) (by kernel_rfl) (by kernel_rfl) (fun _ _ _ h => h) (fun _ => hS) (fun w' => ?_) ?_
    rotate_left
    · unfold bareOp
      go_simp
      try with_reducible rfl
    simp only [Act.put, List.setIfInBounds_toArray, List.set_cons_zero, List.set_cons_succ]
    refine wpAnyB_take (i := 3) (some 40) (Op.load 22 (Operand.tmp 39)) 22 (v := ?_) ⟨_, rfl, rfl, rfl, rfl, rfl⟩ (by kernel_rfl) (by kernel_rfl) (by kernel_rfl) [5, 11, 12, 13, 16, 18, 19] (by kernel_rfl) (fun _ _ _ h => h) hS (fun w' hSw => ?_) ?_
    rotate_left
    · obtain ⟨⟨s0, s1, s2⟩, ⟨s3, s4⟩, ⟨s5, s6, s7, s8, s9, sa, sb, sc⟩⟩ := hSw
      unfold bareOp
      go_simp
      try with_reducible rfl
    simp only [Act.put, List.setIfInBounds_toArray, List.set_cons_zero, List.set_cons_succ]
    refine wpAnyB_takeP (i := 4) (some 41) (Op.move (Operand.tmp 6)) 22 (v := ?_) ⟨_, rfl, rfl, rfl, rfl, rfl⟩ (by kernel_rfl) (by kernel_rfl) (by kernel_rfl) (by kernel_rfl) (fun _ _ _ h => h) (fun _ => hS) (fun w' => ?_) ?_
    rotate_left
    · unfold bareOp
      go_simp
      try with_reducible rfl
    simp only [Act.put, List.setIfInBounds_toArray, List.set_cons_zero, List.set_cons_succ]
    refine wpAnyB_take (i := 6) (some 43) (Op.load 24 (Operand.tmp 8)) 24 (v := ?_) ⟨_, rfl, rfl, rfl, rfl, rfl⟩ (by kernel_rfl) (by kernel_rfl) (by kernel_rfl) [12, 13, 16, 18, 19] (by kernel_rfl) (fun _ _ _ h => h) hS (fun w' hSw => ?_) ?_
    rotate_left
    · obtain ⟨⟨s0, s1, s2⟩, ⟨s3, s4⟩, ⟨s5, s6, s7, s8, s9, sa, sb, sc⟩⟩ := hSw
      unfold bareOp
      go_simp
      try with_reducible rfl
    simp only [Act.put, List.setIfInBounds_toArray, List.set_cons_zero, List.set_cons_succ]
    refine wpAnyB_takeP (i := 7) (some 44) (Op.fieldAddr 51 (Operand.tmp 17) 0) 0 (v := ?_) ⟨_, rfl, rfl, rfl, rfl, rfl⟩ (by kernel_rfl) (by kernel_rfl) (by kernel_rfl) (by kernel_rfl) (fun _ _ _ h => h) (fun _ => hS) (fun w' => ?_) ?_
    rotate_left
    · unfold bareOp
      go_simp
      try with_reducible rfl
    simp only [Act.put, List.setIfInBounds_toArray, List.set_cons_zero, List.set_cons_succ]
    refine wpAnyB_take (i := 8) (some 45) (Op.load 22 (Operand.tmp 44)) 22 (v := ?_) ⟨_, rfl, rfl, rfl, rfl, rfl⟩ (by kernel_rfl) (by kernel_rfl) (by kernel_rfl) [12, 13, 16, 18, 19] (by kernel_rfl) (fun _ _ _ h => h) hS (fun w' hSw => ?_) ?_
    rotate_left
    · obtain ⟨⟨s0, s1, s2⟩, ⟨s3, s4⟩, ⟨s5, s6, s7, s8, s9, sa, sb, sc⟩⟩ := hSw
      unfold bareOp
      go_simp
      try with_reducible rfl
    simp only [Act.put, List.setIfInBounds_toArray, List.set_cons_zero, List.set_cons_succ]
    refine wpAnyB_take (i := 9) (some 46) (Op.load 24 (Operand.tmp 8)) 24 (v := ?_) ⟨_, rfl, rfl, rfl, rfl, rfl⟩ (by kernel_rfl) (by kernel_rfl) (by kernel_rfl) [11, 12, 13, 16, 18, 19] (by kernel_rfl) (fun _ _ _ h => h) hS (fun w' hSw => ?_) ?_
    rotate_left
    · obtain ⟨⟨s0, s1, s2⟩, ⟨s3, s4⟩, ⟨s5, s6, s7, s8, s9, sa, sb, sc⟩⟩ := hSw
      unfold bareOp
      go_simp
      try with_reducible rfl
    simp only [Act.put, List.setIfInBounds_toArray, List.set_cons_zero, List.set_cons_succ]
    refine wpAnyB_takeP (i := 10) (some 47) (Op.move (Operand.tmp 5)) 22 (v := ?_) ⟨_, rfl, rfl, rfl, rfl, rfl⟩ (by kernel_rfl) (by kernel_rfl) (by kernel_rfl) (by kernel_rfl) (fun _ _ _ h => h) (fun _ => hS) (fun w' => ?_) ?_
    rotate_left
    · unfold bareOp
      go_simp
      try with_reducible rfl
    simp only [Act.put, List.setIfInBounds_toArray, List.set_cons_zero, List.set_cons_succ]
    refine wpAnyB_takeP (i := 14) (some 51) (Op.fieldAddr 24 (Operand.tmp 8) 0) 0 (v := ?_) ⟨_, rfl, rfl, rfl, rfl, rfl⟩ (by kernel_rfl) (by kernel_rfl) (by kernel_rfl) (by kernel_rfl) (fun _ _ _ h => h) (fun _ => hS) (fun w' => ?_) ?_
    rotate_left
    · unfold bareOp
      go_simp
      try with_reducible rfl
    simp only [Act.put, List.setIfInBounds_toArray, List.set_cons_zero, List.set_cons_succ]
    refine wpAnyB_take (i := 15) (some 52) (Op.load 22 (Operand.tmp 51)) 22 (v := ?_) ⟨_, rfl, rfl, rfl, rfl, rfl⟩ (by kernel_rfl) (by kernel_rfl) (by kernel_rfl) [16, 18, 19] (by kernel_rfl) (fun _ _ _ h => h) hS (fun w' hSw => ?_) ?_
    rotate_left
    · obtain ⟨⟨s0, s1, s2⟩, ⟨s3, s4⟩, ⟨s5, s6, s7, s8, s9, sa, sb, sc⟩⟩ := hSw
      unfold bareOp
      go_simp
      try with_reducible rfl
    simp only [Act.put, List.setIfInBounds_toArray, List.set_cons_zero, List.set_cons_succ]
    refine wpAnyB_takeP (i := 17) (some 54) (Op.fieldAddr 54 (Operand.tmp 19) 0) 0 (v := ?_) ⟨_, rfl, rfl, rfl, rfl, rfl⟩ (by kernel_rfl) (by kernel_rfl) (by kernel_rfl) (by kernel_rfl) (fun _ _ _ h => h) (fun _ => hS) (fun w' => ?_) ?_
    rotate_left
    · unfold bareOp
      go_simp
      try with_reducible rfl
    simp only [Act.put, List.setIfInBounds_toArray, List.set_cons_zero, List.set_cons_succ]
    refine wpAnyB_only (i := 5) (some 42) (Op.call { callee := Callee.value (Operand.func 66), args := #[Operand.tmp 38, Operand.tmp 40, Operand.tmp 41], argTypes := #[24, 22, 22] }) 22 ⟨_, rfl, rfl, rfl, rfl, rfl⟩ (by kernel_rfl) (fun K hK => ?_)
    unfold bareOp
    go_wp2_with (go_at_call 66; refine (r31Power_any _ hP1 PM hG GM UZ.out HG1.out).mono ?_; rintro e w2 ⟨rfl, hb2⟩)
    replace F_g := Lib.hid (F_g.out.keep hb2)
    replace F_r := Lib.hid (F_r.out.keep hb2)
    replace F_s := Lib.hid (F_s.out.keep hb2)
    replace F_p := Lib.hid (F_p.out.keep hb2)
    replace HBW := Lib.hid (HBW.out.trans (hb2.mono HBW.out.size))
    replace hS := And.intro F_g.out.s (And.intro F_s.out.s F_p.out.s8)
    clear hb2
    refine hK.out _ _ (fun _ => hS) ?_
    clear hK K
    try simp only [Act.put, List.setIfInBounds_toArray, List.set_cons_zero, List.set_cons_succ]
    refine wpAnyB_only (i := 11) (some 48) (Op.call { callee := Callee.value (Operand.func 74), args := #[Operand.tmp 46, Operand.tmp 47], argTypes := #[24, 22] }) 22 ⟨_, rfl, rfl, rfl, rfl, rfl⟩ (by kernel_rfl) (fun K hK => ?_)
    unfold bareOp
    go_wp2_with (go_at_call 74; refine (rminus_any _ HH.out c0_ cQ HMI.out).mono ?_; rintro e w3 ⟨rfl, hb3⟩)
    replace F_g := Lib.hid (F_g.out.keep hb3)
    replace F_r := Lib.hid (F_r.out.keep hb3)
    replace F_s := Lib.hid (F_s.out.keep hb3)
    replace F_p := Lib.hid (F_p.out.keep hb3)
    replace HBW := Lib.hid (HBW.out.trans (hb3.mono HBW.out.size))
    replace hS := And.intro F_g.out.s (And.intro F_s.out.s F_p.out.s8)
    clear hb3
    refine hK.out _ _ (fun _ => hS) ?_
    clear hK K
    try simp only [Act.put, List.setIfInBounds_toArray, List.set_cons_zero, List.set_cons_succ]
    refine wpAnyB_only (i := 12) (some 49) (Op.call { callee := Callee.value (Operand.func 66), args := #[Operand.tmp 43, Operand.tmp 45, Operand.tmp 48], argTypes := #[24, 22, 22] }) 22 ⟨_, rfl, rfl, rfl, rfl, rfl⟩ (by kernel_rfl) (fun K hK => ?_)
    unfold bareOp
    go_wp2_with (go_at_call 66; refine (r31Power_any _ hP1 PM aa0 aaM UM.out HG2.out).mono ?_; rintro e w4 ⟨rfl, hb4⟩)
    replace F_g := Lib.hid (F_g.out.keep hb4)
    replace F_r := Lib.hid (F_r.out.keep hb4)
    replace F_s := Lib.hid (F_s.out.keep hb4)
    replace F_p := Lib.hid (F_p.out.keep hb4)
    replace HBW := Lib.hid (HBW.out.trans (hb4.mono HBW.out.size))
    replace hS := And.intro F_g.out.s (And.intro F_s.out.s F_p.out.s8)
    clear hb4
    refine hK.out _ _ (fun _ => hS) ?_
    clear hK K
    try simp only [Act.put, List.setIfInBounds_toArray, List.set_cons_zero, List.set_cons_succ]
    refine wpAnyB_takeP (i := 13) (some 50) (Op.binOp BinOp.mul 22 (Operand.tmp 42) (Operand.tmp 49) 22) 22 (v := ?_) ⟨_, rfl, rfl, rfl, rfl, rfl⟩ (by kernel_rfl) (by kernel_rfl) (by kernel_rfl) (by kernel_rfl) (fun _ _ _ h => h) (fun _ => hS) (fun w' => ?_) ?_
    rotate_left
    · unfold bareOp
      go_simp
      try with_reducible rfl
    simp only [Act.put, List.setIfInBounds_toArray, List.set_cons_zero, List.set_cons_succ]
    refine wpAnyB_takeP (i := 16) (some 53) (Op.binOp BinOp.rem 22 (Operand.tmp 50) (Operand.tmp 52) 22) 22 (v := ?_) ⟨_, rfl, rfl, rfl, rfl, rfl⟩ (by kernel_rfl) (by kernel_rfl) (by kernel_rfl) (by kernel_rfl) (fun _ _ _ h => h) (fun _ => hS) (fun w' => ?_) ?_
    rotate_left
    · unfold bareOp
      go_simp
      try with_reducible rfl
    simp only [Act.put, List.setIfInBounds_toArray, List.set_cons_zero, List.set_cons_succ]
    refine wpAnyB_takeP (i := 18) (some 55) (Op.indexAddr 52 (Operand.tmp 54) (Operand.tmp 37)) 0 (v := ?_) ⟨_, rfl, rfl, rfl, rfl, rfl⟩ (by kernel_rfl) (by kernel_rfl) (by kernel_rfl) (by kernel_rfl) (fun _ _ _ h => h) (fun _ => hS) (fun w' => ?_) ?_
    rotate_left
    · unfold bareOp
      go_simp
      try with_reducible rfl
    simp only [Act.put, List.setIfInBounds_toArray, List.set_cons_zero, List.set_cons_succ]
    refine wpAnyB_only (i := 19) none (Op.store 22 (Operand.tmp 55) (Operand.tmp 53)) 0 ⟨_, rfl, rfl, rfl, rfl, rfl⟩ (by kernel_rfl) (fun K hK => ?_)
    unfold bareOp
    obtain ⟨z0_, z1_, z2_, z3_, z4_, z5_, z6_, z7_, z8_, z9_, z10_, z11_, z12_, z13_, z14_, z15_⟩ := Arr.k8 F_p.out
    go_wp2_with fail
    refine hK.out _ _ (fun h => absurd (h.symm.trans (by kernel_rfl : _ = true)) (by decide)) ?_
    clear hK K
    try simp only [Act.put, List.setIfInBounds_toArray, List.set_cons_zero, List.set_cons_succ]
    refine wpAnyB_done (by kernel_rfl) ?_ _
    clear hS
    clear z0_ z1_ z2_ z3_ z4_ z5_ z6_ z7_ z8_ z9_ z10_ z11_ z12_ z13_ z14_ z15_
    have hbS := ((Below.refl Bp w4).setCell (p := ⟨Bp, 0, none⟩) (Nat.le_refl _) (.int .u64 Rj))
    replace F_g := Lib.hid (F_g.out.under hbS lt_g)
    replace F_r := Lib.hid (F_r.out.under hbS lt_r)
    replace F_s := Lib.hid (F_s.out.under hbS lt_s)
    replace F_p := Lib.hid (F_p.out.set (ys := [Rj, 0, 0, 0, c, 0, z, 0]) 0 (by simp) rfl)
    replace HBW := Lib.hid (HBW.out.trans (hbS.mono hle))
    clear hbS
    generalize (w4.setCell ⟨Bp, 0, none⟩ (.int .u64 Rj)) = wq1 at F_g F_r F_s F_p HBW ⊢
    go_wp2_with fail
    replace F_g := Lib.hid F_g.out.drew
    replace F_r := Lib.hid F_r.out.drew
    replace F_s := Lib.hid F_s.out.drew
    replace F_p := Lib.hid F_p.out.drew
    replace HBW := Lib.hid HBW.out.drew
    have hS := And.intro F_g.out.s (And.intro F_s.out.s F_p.out.s8)
    refine wp_region_stage 20 (fun w' => SBox w' w.heap.size P Q G ∧ SPair w' Bs a b ∧ S8 w' Bp Rj 0 0 0 c 0 z 0) (by kernel_rfl) ?_
    refine wpAnyB_takeP (i := 0) (some 56) (Op.move (Operand.tmp 18)) 3 (v := ?_) ⟨_, rfl, rfl, rfl, rfl, rfl⟩ (by kernel_rfl) (by kernel_rfl) (by kernel_rfl) (by kernel_rfl) (fun _ _ _ h => h) (fun _ => hS) (fun w' => ?_) ?_
    rotate_left
    · unfold bareOp
      go_simp
      try with_reducible rfl
    simp only [Act.put, List.setIfInBounds_toArray, List.set_cons_zero, List.set_cons_succ]
    refine wpAnyB_take (i := 1) (some 57) (Op.load 24 (Operand.tmp 8)) 24 (v := ?_) ⟨_, rfl, rfl, rfl, rfl, rfl⟩ (by kernel_rfl) (by kernel_rfl) (by kernel_rfl) [4, 9, 12, 13, 14, 17, 19, 20] (by kernel_rfl) (fun _ _ _ h => h) hS (fun w' hSw => ?_) ?_
    rotate_left
    · obtain ⟨⟨s0, s1, s2⟩, ⟨s3, s4⟩, ⟨s5, s6, s7, s8, s9, sa, sb, sc⟩⟩ := hSw
      unfold bareOp
      go_simp
      try with_reducible rfl
    simp only [Act.put, List.setIfInBounds_toArray, List.set_cons_zero, List.set_cons_succ]
    refine wpAnyB_takeP (i := 2) (some 58) (Op.move (Operand.tmp 1)) 22 (v := ?_) ⟨_, rfl, rfl, rfl, rfl, rfl⟩ (by kernel_rfl) (by kernel_rfl) (by kernel_rfl) (by kernel_rfl) (fun _ _ _ h => h) (fun _ => hS) (fun w' => ?_) ?_
    rotate_left
    · unfold bareOp
      go_simp
      try with_reducible rfl
    simp only [Act.put, List.setIfInBounds_toArray, List.set_cons_zero, List.set_cons_succ]
    refine wpAnyB_takeP (i := 3) (some 59) (Op.move (Operand.tmp 6)) 22 (v := ?_) ⟨_, rfl, rfl, rfl, rfl, rfl⟩ (by kernel_rfl) (by kernel_rfl) (by kernel_rfl) (by kernel_rfl) (fun _ _ _ h => h) (fun _ => hS) (fun w' => ?_) ?_
    rotate_left
    · unfold bareOp
      go_simp
      try with_reducible rfl
    simp only [Act.put, List.setIfInBounds_toArray, List.set_cons_zero, List.set_cons_succ]
    refine wpAnyB_take (i := 5) (some 61) (Op.load 24 (Operand.tmp 8)) 24 (v := ?_) ⟨_, rfl, rfl, rfl, rfl, rfl⟩ (by kernel_rfl) (by kernel_rfl) (by kernel_rfl) [13, 14, 17, 19, 20] (by kernel_rfl) (fun _ _ _ h => h) hS (fun w' hSw => ?_) ?_
    rotate_left
    · obtain ⟨⟨s0, s1, s2⟩, ⟨s3, s4⟩, ⟨s5, s6, s7, s8, s9, sa, sb, sc⟩⟩ := hSw
      unfold bareOp
      go_simp
      try with_reducible rfl
    simp only [Act.put, List.setIfInBounds_toArray, List.set_cons_zero, List.set_cons_succ]
    refine wpAnyB_take (i := 6) (some 62) (Op.load 24 (Operand.tmp 8)) 24 (v := ?_) ⟨_, rfl, rfl, rfl, rfl, rfl⟩ (by kernel_rfl) (by kernel_rfl) (by kernel_rfl) [9, 12, 13, 14, 17, 19, 20] (by kernel_rfl) (fun _ _ _ h => h) hS (fun w' hSw => ?_) ?_
    rotate_left
    · obtain ⟨⟨s0, s1, s2⟩, ⟨s3, s4⟩, ⟨s5, s6, s7, s8, s9, sa, sb, sc⟩⟩ := hSw
      unfold bareOp
      go_simp
      try with_reducible rfl
    simp only [Act.put, List.setIfInBounds_toArray, List.set_cons_zero, List.set_cons_succ]
    refine wpAnyB_take (i := 7) (some 63) (Op.load 51 (Operand.tmp 17)) 51 (v := ?_) ⟨_, rfl, rfl, rfl, rfl, rfl⟩ (by kernel_rfl) (by kernel_rfl) (by kernel_rfl) [9, 12, 13, 14, 17, 19, 20] (by kernel_rfl) (fun _ _ _ h => h) hS (fun w' hSw => ?_) ?_
    rotate_left
    · obtain ⟨⟨s0, s1, s2⟩, ⟨s3, s4⟩, ⟨s5, s6, s7, s8, s9, sa, sb, sc⟩⟩ := hSw
      unfold bareOp
      go_simp
      try with_reducible rfl
    simp only [Act.put, List.setIfInBounds_toArray, List.set_cons_zero, List.set_cons_succ]
    refine wpAnyB_takeP (i := 8) (some 64) (Op.move (Operand.tmp 18)) 3 (v := ?_) ⟨_, rfl, rfl, rfl, rfl, rfl⟩ (by kernel_rfl) (by kernel_rfl) (by kernel_rfl) (by kernel_rfl) (fun _ _ _ h => h) (fun _ => hS) (fun w' => ?_) ?_
    rotate_left
    · unfold bareOp
      go_simp
      try with_reducible rfl
    simp only [Act.put, List.setIfInBounds_toArray, List.set_cons_zero, List.set_cons_succ]
    refine wpAnyB_take (i := 10) (some 66) (Op.load 24 (Operand.tmp 8)) 24 (v := ?_) ⟨_, rfl, rfl, rfl, rfl, rfl⟩ (by kernel_rfl) (by kernel_rfl) (by kernel_rfl) [12, 13, 14, 17, 19, 20] (by kernel_rfl) (fun _ _ _ h => h) hS (fun w' hSw => ?_) ?_
    rotate_left
    · obtain ⟨⟨s0, s1, s2⟩, ⟨s3, s4⟩, ⟨s5, s6, s7, s8, s9, sa, sb, sc⟩⟩ := hSw
      unfold bareOp
      go_simp
      try with_reducible rfl
    simp only [Act.put, List.setIfInBounds_toArray, List.set_cons_zero, List.set_cons_succ]
    refine wpAnyB_takeP (i := 11) (some 67) (Op.move (Operand.tmp 5)) 22 (v := ?_) ⟨_, rfl, rfl, rfl, rfl, rfl⟩ (by kernel_rfl) (by kernel_rfl) (by kernel_rfl) (by kernel_rfl) (fun _ _ _ h => h) (fun _ => hS) (fun w' => ?_) ?_
    rotate_left
    · unfold bareOp
      go_simp
      try with_reducible rfl
    simp only [Act.put, List.setIfInBounds_toArray, List.set_cons_zero, List.set_cons_succ]
    refine wpAnyB_takeP (i := 15) (some 71) (Op.fieldAddr 24 (Operand.tmp 8) 0) 0 (v := ?_) ⟨_, rfl, rfl, rfl, rfl, rfl⟩ (by kernel_rfl) (by kernel_rfl) (by kernel_rfl) (by kernel_rfl) (fun _ _ _ h => h) (fun _ => hS) (fun w' => ?_) ?_
    rotate_left
    · unfold bareOp
      go_simp
      try with_reducible rfl
    simp only [Act.put, List.setIfInBounds_toArray, List.set_cons_zero, List.set_cons_succ]
    refine wpAnyB_take (i := 16) (some 72) (Op.load 22 (Operand.tmp 71)) 22 (v := ?_) ⟨_, rfl, rfl, rfl, rfl, rfl⟩ (by kernel_rfl) (by kernel_rfl) (by kernel_rfl) [17, 19, 20] (by kernel_rfl) (fun _ _ _ h => h) hS (fun w' hSw => ?_) ?_
    rotate_left
    · obtain ⟨⟨s0, s1, s2⟩, ⟨s3, s4⟩, ⟨s5, s6, s7, s8, s9, sa, sb, sc⟩⟩ := hSw
      unfold bareOp
      go_simp
      try with_reducible rfl
    simp only [Act.put, List.setIfInBounds_toArray, List.set_cons_zero, List.set_cons_succ]
    refine wpAnyB_takeP (i := 18) (some 74) (Op.fieldAddr 54 (Operand.tmp 19) 1) 0 (v := ?_) ⟨_, rfl, rfl, rfl, rfl, rfl⟩ (by kernel_rfl) (by kernel_rfl) (by kernel_rfl) (by kernel_rfl) (fun _ _ _ h => h) (fun _ => hS) (fun w' => ?_) ?_
    rotate_left
    · unfold bareOp
      go_simp
      try with_reducible rfl
    simp only [Act.put, List.setIfInBounds_toArray, List.set_cons_zero, List.set_cons_succ]
    refine wpAnyB_only (i := 4) (some 60) (Op.call { callee := Callee.value (Operand.func 66), args := #[Operand.tmp 57, Operand.tmp 58, Operand.tmp 59], argTypes := #[24, 22, 22] }) 22 ⟨_, rfl, rfl, rfl, rfl, rfl⟩ (by kernel_rfl) (fun K hK => ?_)
    unfold bareOp
    go_wp2_with (go_at_call 66; refine (r31Power_any _ hP1 PM y0 yM UZ.out HH1.out).mono ?_; rintro e w5 ⟨rfl, hb5⟩)
    replace F_g := Lib.hid (F_g.out.keep hb5)
    replace F_r := Lib.hid (F_r.out.keep hb5)
    replace F_s := Lib.hid (F_s.out.keep hb5)
    replace F_p := Lib.hid (F_p.out.keep hb5)
    replace HBW := Lib.hid (HBW.out.trans (hb5.mono HBW.out.size))
    replace hS := And.intro F_g.out.s (And.intro F_s.out.s F_p.out.s8)
    clear hb5
    refine hK.out _ _ (fun _ => hS) ?_
    clear hK K
    try simp only [Act.put, List.setIfInBounds_toArray, List.set_cons_zero, List.set_cons_succ]
    refine wpAnyB_only (i := 9) (some 65) (Op.call { callee := Callee.value (Operand.func 75), args := #[Operand.tmp 62, Operand.tmp 63, Operand.tmp 64], argTypes := #[24, 51, 3] }) 22 ⟨_, rfl, rfl, rfl, rfl, rfl⟩ (by kernel_rfl) (fun K hK => ?_)
    unfold bareOp
    go_wp2_with (go_at_call 75; refine (rWithout0_any _ HH.out bb0 bbP (show (0 - 0) % Q = 0 by simp) HPZ.out HBZ.out).mono ?_; rintro e w6 ⟨rfl, hb6⟩)
    replace F_g := Lib.hid (F_g.out.keep hb6)
    replace F_r := Lib.hid (F_r.out.keep hb6)
    replace F_s := Lib.hid (F_s.out.keep hb6)
    replace F_p := Lib.hid (F_p.out.keep hb6)
    replace HBW := Lib.hid (HBW.out.trans (hb6.mono HBW.out.size))
    replace hS := And.intro F_g.out.s (And.intro F_s.out.s F_p.out.s8)
    clear hb6
    refine hK.out _ _ (fun _ => hS) ?_
    clear hK K
    try simp only [Act.put, List.setIfInBounds_toArray, List.set_cons_zero, List.set_cons_succ]
    refine wpAnyB_only (i := 12) (some 68) (Op.call { callee := Callee.value (Operand.func 74), args := #[Operand.tmp 66, Operand.tmp 67], argTypes := #[24, 22] }) 22 ⟨_, rfl, rfl, rfl, rfl, rfl⟩ (by kernel_rfl) (fun K hK => ?_)
    unfold bareOp
    go_wp2_with (go_at_call 74; refine (rminus_any _ HH.out c0_ cQ HMI.out).mono ?_; rintro e w7 ⟨rfl, hb7⟩)
    replace F_g := Lib.hid (F_g.out.keep hb7)
    replace F_r := Lib.hid (F_r.out.keep hb7)
    replace F_s := Lib.hid (F_s.out.keep hb7)
    replace F_p := Lib.hid (F_p.out.keep hb7)
    replace HBW := Lib.hid (HBW.out.trans (hb7.mono HBW.out.size))
    replace hS := And.intro F_g.out.s (And.intro F_s.out.s F_p.out.s8)
    clear hb7
    refine hK.out _ _ (fun _ => hS) ?_
    clear hK K
    try simp only [Act.put, List.setIfInBounds_toArray, List.set_cons_zero, List.set_cons_succ]
    refine wpAnyB_only (i := 13) (some 69) (Op.call { callee := Callee.value (Operand.func 66), args := #[Operand.tmp 61, Operand.tmp 65, Operand.tmp 68], argTypes := #[24, 22, 22] }) 22 ⟨_, rfl, rfl, rfl, rfl, rfl⟩ (by kernel_rfl) (fun K hK => ?_)
    unfold bareOp
    go_wp2_with (go_at_call 66; refine (r31Power_any _ hP1 PM tj0 tjM UM.out HH2.out).mono ?_; rintro e w8 ⟨rfl, hb8⟩)
    replace F_g := Lib.hid (F_g.out.keep hb8)
    replace F_r := Lib.hid (F_r.out.keep hb8)
    replace F_s := Lib.hid (F_s.out.keep hb8)
    replace F_p := Lib.hid (F_p.out.keep hb8)
    replace HBW := Lib.hid (HBW.out.trans (hb8.mono HBW.out.size))
    replace hS := And.intro F_g.out.s (And.intro F_s.out.s F_p.out.s8)
    clear hb8
    refine hK.out _ _ (fun _ => hS) ?_
    clear hK K
    try simp only [Act.put, List.setIfInBounds_toArray, List.set_cons_zero, List.set_cons_succ]
    refine wpAnyB_takeP (i := 14) (some 70) (Op.binOp BinOp.mul 22 (Operand.tmp 60) (Operand.tmp 69) 22) 22 (v := ?_) ⟨_, rfl, rfl, rfl, rfl, rfl⟩ (by kernel_rfl) (by kernel_rfl) (by kernel_rfl) (by kernel_rfl) (fun _ _ _ h => h) (fun _ => hS) (fun w' => ?_) ?_
    rotate_left
    · unfold bareOp
      go_simp
      try with_reducible rfl
    simp only [Act.put, List.setIfInBounds_toArray, List.set_cons_zero, List.set_cons_succ]
    refine wpAnyB_takeP (i := 17) (some 73) (Op.binOp BinOp.rem 22 (Operand.tmp 70) (Operand.tmp 72) 22) 22 (v := ?_) ⟨_, rfl, rfl, rfl, rfl, rfl⟩ (by kernel_rfl) (by kernel_rfl) (by kernel_rfl) (by kernel_rfl) (fun _ _ _ h => h) (fun _ => hS) (fun w' => ?_) ?_
    rotate_left
    · unfold bareOp
      go_simp
      try with_reducible rfl
    simp only [Act.put, List.setIfInBounds_toArray, List.set_cons_zero, List.set_cons_succ]
    refine wpAnyB_takeP (i := 19) (some 75) (Op.indexAddr 52 (Operand.tmp 74) (Operand.tmp 56)) 0 (v := ?_) ⟨_, rfl, rfl, rfl, rfl, rfl⟩ (by kernel_rfl) (by kernel_rfl) (by kernel_rfl) (by kernel_rfl) (fun _ _ _ h => h) (fun _ => hS) (fun w' => ?_) ?_
    rotate_left
    · unfold bareOp
      go_simp
      try with_reducible rfl
    simp only [Act.put, List.setIfInBounds_toArray, List.set_cons_zero, List.set_cons_succ]
    refine wpAnyB_only (i := 20) none (Op.store 22 (Operand.tmp 75) (Operand.tmp 73)) 0 ⟨_, rfl, rfl, rfl, rfl, rfl⟩ (by kernel_rfl) (fun K hK => ?_)
    unfold bareOp
    obtain ⟨z0_, z1_, z2_, z3_, z4_, z5_, z6_, z7_, z8_, z9_, z10_, z11_, z12_, z13_, z14_, z15_⟩ := Arr.k8 F_p.out
    go_wp2_with fail
    refine hK.out _ _ (fun h => absurd (h.symm.trans (by kernel_rfl : _ = true)) (by decide)) ?_
    clear hK K
    try simp only [Act.put, List.setIfInBounds_toArray, List.set_cons_zero, List.set_cons_succ]
    refine wpAnyB_done (by kernel_rfl) ?_ _
    clear hS
    clear z0_ z1_ z2_ z3_ z4_ z5_ z6_ z7_ z8_ z9_ z10_ z11_ z12_ z13_ z14_ z15_
    have hbS := ((Below.refl Bp w8).setCell (p := ⟨Bp, 2, none⟩) (Nat.le_refl _) (.int .u64 Sj))
    replace F_g := Lib.hid (F_g.out.under hbS lt_g)
    replace F_r := Lib.hid (F_r.out.under hbS lt_r)
    replace F_s := Lib.hid (F_s.out.under hbS lt_s)
    replace F_p := Lib.hid (F_p.out.set (ys := [Rj, 0, Sj, 0, c, 0, z, 0]) 2 (by simp) rfl)
    replace HBW := Lib.hid (HBW.out.trans (hbS.mono hle))
    clear hbS
    generalize (w8.setCell ⟨Bp, 2, none⟩ (.int .u64 Sj)) = wq2 at F_g F_r F_s F_p HBW ⊢
    obtain ⟨q1_0, q1_1, q1_2, q1_3, q1_4, q1_5, q1_6, q1_7, q1_8, q1_9, q1_10, q1_11, q1_12, q1_13, q1_14, q1_15⟩ := Arr.k8 F_r.out
    obtain ⟨q3_0, q3_1, q3_2, q3_3, q3_4, q3_5, q3_6, q3_7, q3_8, q3_9, q3_10, q3_11, q3_12, q3_13, q3_14, q3_15⟩ := Arr.k8 F_p.out
    obtain ⟨x0a, x0b, x0c, -⟩ := id F_g.out
    obtain ⟨x2a, x2b, x2c, x2d, -⟩ := id F_s.out
    go_wp2_with fail
    clear x0a x0b x0c x2a x2b x2c x2d q1_0 q1_1 q1_2 q1_3 q1_4 q1_5 q1_6 q1_7 q1_8 q1_9 q1_10 q1_11 q1_12 q1_13 q1_14 q1_15 q3_0 q3_1 q3_2 q3_3 q3_4 q3_5 q3_6 q3_7 q3_8 q3_9 q3_10 q3_11 q3_12 q3_13 q3_14 q3_15
    refine (r31Power_any _ hP1 PM hG GM UK.out HRM.out).mono ?_
    rintro e w9 ⟨rfl, hb9⟩
    replace F_g := Lib.hid (F_g.out.keep hb9)
    replace F_r := Lib.hid (F_r.out.keep hb9)
    replace F_s := Lib.hid (F_s.out.keep hb9)
    replace F_p := Lib.hid (F_p.out.keep hb9)
    replace HBW := Lib.hid (HBW.out.trans (hb9.mono HBW.out.size))
    clear hb9
    obtain ⟨q1_0, q1_1, q1_2, q1_3, q1_4, q1_5, q1_6, q1_7, q1_8, q1_9, q1_10, q1_11, q1_12, q1_13, q1_14, q1_15⟩ := Arr.k8 F_r.out
    obtain ⟨q3_0, q3_1, q3_2, q3_3, q3_4, q3_5, q3_6, q3_7, q3_8, q3_9, q3_10, q3_11, q3_12, q3_13, q3_14, q3_15⟩ := Arr.k8 F_p.out
    obtain ⟨x0a, x0b, x0c, -⟩ := id F_g.out
    obtain ⟨x2a, x2b, x2c, x2d, -⟩ := id F_s.out
    go_wp2_with fail
    clear x0a x0b x0c x2a x2b x2c x2d q1_0 q1_1 q1_2 q1_3 q1_4 q1_5 q1_6 q1_7 q1_8 q1_9 q1_10 q1_11 q1_12 q1_13 q1_14 q1_15 q3_0 q3_1 q3_2 q3_3 q3_4 q3_5 q3_6 q3_7 q3_8 q3_9 q3_10 q3_11 q3_12 q3_13 q3_14 q3_15
    have hbS := ((Below.refl Bp w9).setCell (p := ⟨Bp, 1, none⟩) (Nat.le_refl _) (.int .u64 Rm))
    replace F_g := Lib.hid (F_g.out.under hbS lt_g)
    replace F_r := Lib.hid (F_r.out.under hbS lt_r)
    replace F_s := Lib.hid (F_s.out.under hbS lt_s)
    replace F_p := Lib.hid (F_p.out.set (ys := [Rj, Rm, Sj, 0, c, 0, z, 0]) 1 (by simp) rfl)
    replace HBW := Lib.hid (HBW.out.trans (hbS.mono hle))
    clear hbS
    generalize (w9.setCell ⟨Bp, 1, none⟩ (.int .u64 Rm)) = wq3 at F_g F_r F_s F_p HBW ⊢
    refine (r31Power_any _ hP1 PM y0 yM UK.out HSM.out).mono ?_
    rintro e w10 ⟨rfl, hb10⟩
    replace F_g := Lib.hid (F_g.out.keep hb10)
    replace F_r := Lib.hid (F_r.out.keep hb10)
    replace F_s := Lib.hid (F_s.out.keep hb10)
    replace F_p := Lib.hid (F_p.out.keep hb10)
    replace HBW := Lib.hid (HBW.out.trans (hb10.mono HBW.out.size))
    clear hb10
    obtain ⟨q1_0, q1_1, q1_2, q1_3, q1_4, q1_5, q1_6, q1_7, q1_8, q1_9, q1_10, q1_11, q1_12, q1_13, q1_14, q1_15⟩ := Arr.k8 F_r.out
    obtain ⟨q3_0, q3_1, q3_2, q3_3, q3_4, q3_5, q3_6, q3_7, q3_8, q3_9, q3_10, q3_11, q3_12, q3_13, q3_14, q3_15⟩ := Arr.k8 F_p.out
    obtain ⟨x0a, x0b, x0c, -⟩ := id F_g.out
    obtain ⟨x2a, x2b, x2c, x2d, -⟩ := id F_s.out
    go_wp2_with fail
    clear x0a x0b x0c x2a x2b x2c x2d q1_0 q1_1 q1_2 q1_3 q1_4 q1_5 q1_6 q1_7 q1_8 q1_9 q1_10 q1_11 q1_12 q1_13 q1_14 q1_15 q3_0 q3_1 q3_2 q3_3 q3_4 q3_5 q3_6 q3_7 q3_8 q3_9 q3_10 q3_11 q3_12 q3_13 q3_14 q3_15
    have hbS := ((Below.refl Bp w10).setCell (p := ⟨Bp, 3, none⟩) (Nat.le_refl _) (.int .u64 Sm))
    replace F_g := Lib.hid (F_g.out.under hbS lt_g)
    replace F_r := Lib.hid (F_r.out.under hbS lt_r)
    replace F_s := Lib.hid (F_s.out.under hbS lt_s)
    replace F_p := Lib.hid (F_p.out.set (ys := [Rj, Rm, Sj, Sm, c, 0, z, 0]) 3 (by simp) rfl)
    replace HBW := Lib.hid (HBW.out.trans (hbS.mono hle))
    clear hbS
    generalize (w10.setCell ⟨Bp, 3, none⟩ (.int .u64 Sm)) = wq4 at F_g F_r F_s F_p HBW ⊢
    try go_wp2_with fail
    replace F_g := Lib.hid F_g.out.drew
    replace F_r := Lib.hid F_r.out.drew
    replace F_s := Lib.hid F_s.out.drew
    replace F_p := Lib.hid F_p.out.drew
    replace HBW := Lib.hid HBW.out.drew
    have hS := And.intro F_g.out.s (And.intro F_s.out.s F_p.out.s8)
    refine wp_region_stage 7 (fun w' => SBox w' w.heap.size P Q G ∧ SPair w' Bs a b ∧ S8 w' Bp Rj Rm Sj Sm c 0 z 0) (by kernel_rfl) ?_
    refine wpAnyB_take (i := 0) (some 91) (Op.load 24 (Operand.tmp 8)) 24 (v := ?_) ⟨_, rfl, rfl, rfl, rfl, rfl⟩ (by kernel_rfl) (by kernel_rfl) (by kernel_rfl) [6, 7] (by kernel_rfl) (fun _ _ _ h => h) hS (fun w' hSw => ?_) ?_
    rotate_left
    · obtain ⟨⟨s0, s1, s2⟩, ⟨s3, s4⟩, ⟨s5, s6, s7, s8, s9, sa, sb, sc⟩⟩ := hSw
      unfold bareOp
      go_simp
      try with_reducible rfl
    simp only [Act.put, List.setIfInBounds_toArray, List.set_cons_zero, List.set_cons_succ]
    refine wpAnyB_takeP (i := 1) (some 92) (Op.move (Operand.tmp 1)) 22 (v := ?_) ⟨_, rfl, rfl, rfl, rfl, rfl⟩ (by kernel_rfl) (by kernel_rfl) (by kernel_rfl) (by kernel_rfl) (fun _ _ _ h => h) (fun _ => hS) (fun w' => ?_) ?_
    rotate_left
    · unfold bareOp
      go_simp
      try with_reducible rfl
    simp only [Act.put, List.setIfInBounds_toArray, List.set_cons_zero, List.set_cons_succ]
    refine wpAnyB_take (i := 2) (some 93) (Op.load 51 (Operand.tmp 17)) 51 (v := ?_) ⟨_, rfl, rfl, rfl, rfl, rfl⟩ (by kernel_rfl) (by kernel_rfl) (by kernel_rfl) [4, 6, 7] (by kernel_rfl) (fun _ _ _ h => h) hS (fun w' hSw => ?_) ?_
    rotate_left
    · obtain ⟨⟨s0, s1, s2⟩, ⟨s3, s4⟩, ⟨s5, s6, s7, s8, s9, sa, sb, sc⟩⟩ := hSw
      unfold bareOp
      go_simp
      try with_reducible rfl
    simp only [Act.put, List.setIfInBounds_toArray, List.set_cons_zero, List.set_cons_succ]
    refine wpAnyB_take (i := 3) (some 94) (Op.load 54 (Operand.tmp 19)) 54 (v := ?_) ⟨_, rfl, rfl, rfl, rfl, rfl⟩ (by kernel_rfl) (by kernel_rfl) (by kernel_rfl) [4, 6, 7] (by kernel_rfl) (fun _ _ _ h => h) hS (fun w' hSw => ?_) ?_
    rotate_left
    · obtain ⟨⟨s0, s1, s2⟩, ⟨s3, s4⟩, ⟨s5, s6, s7, s8, s9, sa, sb, sc⟩⟩ := hSw
      unfold bareOp
      go_simp
      try with_reducible rfl
    simp only [Act.put, List.setIfInBounds_toArray, List.set_cons_zero, List.set_cons_succ]
    refine wpAnyB_takeP (i := 5) (some 96) (Op.move (Operand.tmp 7)) 27 (v := ?_) ⟨_, rfl, rfl, rfl, rfl, rfl⟩ (by kernel_rfl) (by kernel_rfl) (by kernel_rfl) (by kernel_rfl) (fun _ _ _ h => h) (fun _ => hS) (fun w' => ?_) ?_
    rotate_left
    · unfold bareOp
      go_simp
      try with_reducible rfl
    simp only [Act.put, List.setIfInBounds_toArray, List.set_cons_zero, List.set_cons_succ]
    refine wpAnyB_only (i := 4) (some 95) (Op.call { callee := Callee.value (Operand.func 76), args := #[Operand.tmp 92, Operand.tmp 93, Operand.tmp 94], argTypes := #[22, 51, 54] }) 42 ⟨_, rfl, rfl, rfl, rfl, rfl⟩ (by kernel_rfl) (fun K hK => ?_)
    unfold bareOp
    go_wp2_with (go_at_call 76; refine (rlist_any _).mono ?_; rintro e w11 ⟨BL, rfl, hms, hb11⟩)
    replace F_g := Lib.hid (F_g.out.keep hb11)
    replace F_r := Lib.hid (F_r.out.keep hb11)
    replace F_s := Lib.hid (F_s.out.keep hb11)
    replace F_p := Lib.hid (F_p.out.keep hb11)
    have F_ms := Lib.hid hms
    replace HBW := Lib.hid (HBW.out.trans (hb11.mono HBW.out.size))
    replace hS := And.intro F_g.out.s (And.intro F_s.out.s F_p.out.s8)
    clear hb11
    refine hK.out _ _ (fun _ => hS) ?_
    clear hK K
    try simp only [Act.put, List.setIfInBounds_toArray, List.set_cons_zero, List.set_cons_succ]
    refine wpAnyB_only (i := 6) (some 97) (Op.call { callee := Callee.value (Operand.func 67), args := #[Operand.tmp 91, Operand.tmp 95, Operand.tmp 96], argTypes := #[24, 42, 27] }) 22 ⟨_, rfl, rfl, rfl, rfl, rfl⟩ (by kernel_rfl) (fun K hK => ?_)
    unfold bareOp
    go_wp2_with (go_at_call 67; refine (rOf31_any _ (HT.out.keep HBW.out) HH.out F_ms.out HUS.out (by simp) (by simp) (by omega) HTT.out).mono ?_; rintro e w12 ⟨rfl, hb12⟩)
    replace F_g := Lib.hid (F_g.out.keep hb12)
    replace F_r := Lib.hid (F_r.out.keep hb12)
    replace F_s := Lib.hid (F_s.out.keep hb12)
    replace F_p := Lib.hid (F_p.out.keep hb12)
    replace HBW := Lib.hid (HBW.out.trans (hb12.mono HBW.out.size))
    replace hS := And.intro F_g.out.s (And.intro F_s.out.s F_p.out.s8)
    clear hb12
    refine hK.out _ _ (fun _ => hS) ?_
    clear hK K
    try simp only [Act.put, List.setIfInBounds_toArray, List.set_cons_zero, List.set_cons_succ]
    refine wpAnyB_only (i := 7) (some 20) (Op.assign (Operand.tmp 97)) 22 ⟨_, rfl, rfl, rfl, rfl, rfl⟩ (by kernel_rfl) (fun K hK => ?_)
    unfold bareOp
    go_wp2_with fail
    refine hK.out _ _ (fun h => absurd (h.symm.trans (by kernel_rfl : _ = true)) (by decide)) ?_
    clear hK K
    try simp only [Act.put, List.setIfInBounds_toArray, List.set_cons_zero, List.set_cons_succ]
    refine wpAnyB_done (by kernel_rfl) ?_ _
    clear hS
    clear F_ms hms
    obtain ⟨q1_0, q1_1, q1_2, q1_3, q1_4, q1_5, q1_6, q1_7, q1_8, q1_9, q1_10, q1_11, q1_12, q1_13, q1_14, q1_15⟩ := Arr.k8 F_r.out
    obtain ⟨q3_0, q3_1, q3_2, q3_3, q3_4, q3_5, q3_6, q3_7, q3_8, q3_9, q3_10, q3_11, q3_12, q3_13, q3_14, q3_15⟩ := Arr.k8 F_p.out
    obtain ⟨x0a, x0b, x0c, -⟩ := id F_g.out
    obtain ⟨x2a, x2b, x2c, x2d, -⟩ := id F_s.out
    go_wp2_with fail
    clear x0a x0b x0c x2a x2b x2c x2d q1_0 q1_1 q1_2 q1_3 q1_4 q1_5 q1_6 q1_7 q1_8 q1_9 q1_10 q1_11 q1_12 q1_13 q1_14 q1_15 q3_0 q3_1 q3_2 q3_3 q3_4 q3_5 q3_6 q3_7 q3_8 q3_9 q3_10 q3_11 q3_12 q3_13 q3_14 q3_15
    refine (rDiff_gen _ HH.out tot0 totQ c0_ cQ HCM.out).mono ?_
    rintro e w13 ⟨rfl, hb13⟩
    replace F_g := Lib.hid (F_g.out.keep hb13)
    replace F_r := Lib.hid (F_r.out.keep hb13)
    replace F_s := Lib.hid (F_s.out.keep hb13)
    replace F_p := Lib.hid (F_p.out.keep hb13)
    replace HBW := Lib.hid (HBW.out.trans (hb13.mono HBW.out.size))
    clear hb13
    obtain ⟨q1_0, q1_1, q1_2, q1_3, q1_4, q1_5, q1_6, q1_7, q1_8, q1_9, q1_10, q1_11, q1_12, q1_13, q1_14, q1_15⟩ := Arr.k8 F_r.out
    obtain ⟨q3_0, q3_1, q3_2, q3_3, q3_4, q3_5, q3_6, q3_7, q3_8, q3_9, q3_10, q3_11, q3_12, q3_13, q3_14, q3_15⟩ := Arr.k8 F_p.out
    obtain ⟨x0a, x0b, x0c, -⟩ := id F_g.out
    obtain ⟨x2a, x2b, x2c, x2d, -⟩ := id F_s.out
    go_wp2_with fail
    clear x0a x0b x0c x2a x2b x2c x2d q1_0 q1_1 q1_2 q1_3 q1_4 q1_5 q1_6 q1_7 q1_8 q1_9 q1_10 q1_11 q1_12 q1_13 q1_14 q1_15 q3_0 q3_1 q3_2 q3_3 q3_4 q3_5 q3_6 q3_7 q3_8 q3_9 q3_10 q3_11 q3_12 q3_13 q3_14 q3_15
    have hbS := ((Below.refl Bp w13).setCell (p := ⟨Bp, 5, none⟩) (Nat.le_refl _) (.int .u64 Cm))
    replace F_g := Lib.hid (F_g.out.under hbS lt_g)
    replace F_r := Lib.hid (F_r.out.under hbS lt_r)
    replace F_s := Lib.hid (F_s.out.under hbS lt_s)
    replace F_p := Lib.hid (F_p.out.set (ys := [Rj, Rm, Sj, Sm, c, Cm, z, 0]) 5 (by simp) rfl)
    replace HBW := Lib.hid (HBW.out.trans (hbS.mono hle))
    clear hbS
    generalize (w13.setCell ⟨Bp, 5, none⟩ (.int .u64 Cm)) = wq5 at F_g F_r F_s F_p HBW ⊢
    try go_wp2_with fail
    replace F_g := Lib.hid F_g.out.drew
    replace F_r := Lib.hid F_r.out.drew
    replace F_s := Lib.hid F_s.out.drew
    replace F_p := Lib.hid F_p.out.drew
    replace HBW := Lib.hid HBW.out.drew
    have hS := And.intro F_g.out.s (And.intro F_s.out.s F_p.out.s8)
    refine wp_region_stage 11 (fun w' => SBox w' w.heap.size P Q G ∧ SPair w' Bs a b ∧ S8 w' Bp Rj Rm Sj Sm c Cm z 0) (by kernel_rfl) ?_
    refine wpAnyB_takeP (i := 0) (some 105) (Op.move (Operand.tmp 2)) 3 (v := ?_) ⟨_, rfl, rfl, rfl, rfl, rfl⟩ (by kernel_rfl) (by kernel_rfl) (by kernel_rfl) (by kernel_rfl) (fun _ _ _ h => h) (fun _ => hS) (fun w' => ?_) ?_
    rotate_left
    · unfold bareOp
      go_simp
      try with_reducible rfl
    simp only [Act.put, List.setIfInBounds_toArray, List.set_cons_zero, List.set_cons_succ]
    refine wpAnyB_take (i := 1) (some 106) (Op.load 24 (Operand.tmp 8)) 24 (v := ?_) ⟨_, rfl, rfl, rfl, rfl, rfl⟩ (by kernel_rfl) (by kernel_rfl) (by kernel_rfl) [8, 10, 11] (by kernel_rfl) (fun _ _ _ h => h) hS (fun w' hSw => ?_) ?_
    rotate_left
    · obtain ⟨⟨s0, s1, s2⟩, ⟨s3, s4⟩, ⟨s5, s6, s7, s8, s9, sa, sb, sc⟩⟩ := hSw
      unfold bareOp
      go_simp
      try with_reducible rfl
    simp only [Act.put, List.setIfInBounds_toArray, List.set_cons_zero, List.set_cons_succ]
    refine wpAnyB_takeP (i := 2) (some 107) (Op.move (Operand.tmp 3)) 22 (v := ?_) ⟨_, rfl, rfl, rfl, rfl, rfl⟩ (by kernel_rfl) (by kernel_rfl) (by kernel_rfl) (by kernel_rfl) (fun _ _ _ h => h) (fun _ => hS) (fun w' => ?_) ?_
    rotate_left
    · unfold bareOp
      go_simp
      try with_reducible rfl
    simp only [Act.put, List.setIfInBounds_toArray, List.set_cons_zero, List.set_cons_succ]
    refine wpAnyB_takeP (i := 3) (some 108) (Op.move (Operand.tmp 4)) 22 (v := ?_) ⟨_, rfl, rfl, rfl, rfl, rfl⟩ (by kernel_rfl) (by kernel_rfl) (by kernel_rfl) (by kernel_rfl) (fun _ _ _ h => h) (fun _ => hS) (fun w' => ?_) ?_
    rotate_left
    · unfold bareOp
      go_simp
      try with_reducible rfl
    simp only [Act.put, List.setIfInBounds_toArray, List.set_cons_zero, List.set_cons_succ]
    refine wpAnyB_takeP (i := 4) (some 109) (Op.move (Operand.tmp 2)) 3 (v := ?_) ⟨_, rfl, rfl, rfl, rfl, rfl⟩ (by kernel_rfl) (by kernel_rfl) (by kernel_rfl) (by kernel_rfl) (fun _ _ _ h => h) (fun _ => hS) (fun w' => ?_) ?_
    rotate_left
    · unfold bareOp
      go_simp
      try with_reducible rfl
    simp only [Act.put, List.setIfInBounds_toArray, List.set_cons_zero, List.set_cons_succ]
    refine wpAnyB_takeP (i := 5) (some 110) (Op.fieldAddr 54 (Operand.tmp 19) 2) 0 (v := ?_) ⟨_, rfl, rfl, rfl, rfl, rfl⟩ (by kernel_rfl) (by kernel_rfl) (by kernel_rfl) (by kernel_rfl) (fun _ _ _ h => h) (fun _ => hS) (fun w' => ?_) ?_
    rotate_left
    · unfold bareOp
      go_simp
      try with_reducible rfl
    simp only [Act.put, List.setIfInBounds_toArray, List.set_cons_zero, List.set_cons_succ]
    refine wpAnyB_takeP (i := 6) (some 111) (Op.indexAddr 52 (Operand.tmp 110) (Operand.tmp 109)) 0 (v := ?_) ⟨_, rfl, rfl, rfl, rfl, rfl⟩ (by kernel_rfl) (by kernel_rfl) (by kernel_rfl) (by kernel_rfl) (fun _ _ _ h => h) (fun _ => hS) (fun w' => ?_) ?_
    rotate_left
    · unfold bareOp
      go_simp
      try with_reducible rfl
    simp only [Act.put, List.setIfInBounds_toArray, List.set_cons_zero, List.set_cons_succ]
    refine wpAnyB_take (i := 7) (some 112) (Op.load 22 (Operand.tmp 111)) 22 (v := ?_) ⟨_, rfl, rfl, rfl, rfl, rfl⟩ (by kernel_rfl) (by kernel_rfl) (by kernel_rfl) [8, 10, 11] (by kernel_rfl) (fun _ _ _ h => h) hS (fun w' hSw => ?_) ?_
    rotate_left
    · obtain ⟨⟨s0, s1, s2⟩, ⟨s3, s4⟩, ⟨s5, s6, s7, s8, s9, sa, sb, sc⟩⟩ := hSw
      unfold bareOp
      go_simp
      try with_reducible rfl
    simp only [Act.put, List.setIfInBounds_toArray, List.set_cons_zero, List.set_cons_succ]
    refine wpAnyB_takeP (i := 9) (some 114) (Op.fieldAddr 54 (Operand.tmp 19) 3) 0 (v := ?_) ⟨_, rfl, rfl, rfl, rfl, rfl⟩ (by kernel_rfl) (by kernel_rfl) (by kernel_rfl) (by kernel_rfl) (fun _ _ _ h => h) (fun _ => hS) (fun w' => ?_) ?_
    rotate_left
    · unfold bareOp
      go_simp
      try with_reducible rfl
    simp only [Act.put, List.setIfInBounds_toArray, List.set_cons_zero, List.set_cons_succ]
    refine wpAnyB_only (i := 8) (some 113) (Op.call { callee := Callee.value (Operand.func 68), args := #[Operand.tmp 106, Operand.tmp 107, Operand.tmp 108, Operand.tmp 112], argTypes := #[24, 22, 22, 22] }) 22 ⟨_, rfl, rfl, rfl, rfl, rfl⟩ (by kernel_rfl) (fun K hK => ?_)
    unfold bareOp
    go_wp2_with (go_at_call 68; refine (rtold_any _ HH.out r0_ rQ k0_ kQ cm0 cmQ HMM.out HZM.out).mono ?_; rintro e w14 ⟨rfl, hb14⟩)
    replace F_g := Lib.hid (F_g.out.keep hb14)
    replace F_r := Lib.hid (F_r.out.keep hb14)
    replace F_s := Lib.hid (F_s.out.keep hb14)
    replace F_p := Lib.hid (F_p.out.keep hb14)
    replace HBW := Lib.hid (HBW.out.trans (hb14.mono HBW.out.size))
    replace hS := And.intro F_g.out.s (And.intro F_s.out.s F_p.out.s8)
    clear hb14
    refine hK.out _ _ (fun _ => hS) ?_
    clear hK K
    try simp only [Act.put, List.setIfInBounds_toArray, List.set_cons_zero, List.set_cons_succ]
    refine wpAnyB_takeP (i := 10) (some 115) (Op.indexAddr 52 (Operand.tmp 114) (Operand.tmp 105)) 0 (v := ?_) ⟨_, rfl, rfl, rfl, rfl, rfl⟩ (by kernel_rfl) (by kernel_rfl) (by kernel_rfl) (by kernel_rfl) (fun _ _ _ h => h) (fun _ => hS) (fun w' => ?_) ?_
    rotate_left
    · unfold bareOp
      go_simp
      try with_reducible rfl
    simp only [Act.put, List.setIfInBounds_toArray, List.set_cons_zero, List.set_cons_succ]
    refine wpAnyB_only (i := 11) none (Op.store 22 (Operand.tmp 115) (Operand.tmp 113)) 0 ⟨_, rfl, rfl, rfl, rfl, rfl⟩ (by kernel_rfl) (fun K hK => ?_)
    unfold bareOp
    obtain ⟨z0_, z1_, z2_, z3_, z4_, z5_, z6_, z7_, z8_, z9_, z10_, z11_, z12_, z13_, z14_, z15_⟩ := Arr.k8 F_p.out
    go_wp2_with fail
    refine hK.out _ _ (fun h => absurd (h.symm.trans (by kernel_rfl : _ = true)) (by decide)) ?_
    clear hK K
    try simp only [Act.put, List.setIfInBounds_toArray, List.set_cons_zero, List.set_cons_succ]
    refine wpAnyB_done (by kernel_rfl) ?_ _
    clear hS
    clear z0_ z1_ z2_ z3_ z4_ z5_ z6_ z7_ z8_ z9_ z10_ z11_ z12_ z13_ z14_ z15_
    have hbS := ((Below.refl Bp w14).setCell (p := ⟨Bp, 7, none⟩) (Nat.le_refl _) (.int .u64 Zm))
    replace F_g := Lib.hid (F_g.out.under hbS lt_g)
    replace F_r := Lib.hid (F_r.out.under hbS lt_r)
    replace F_s := Lib.hid (F_s.out.under hbS lt_s)
    replace F_p := Lib.hid (F_p.out.set (ys := [Rj, Rm, Sj, Sm, c, Cm, z, Zm]) 7 (by simp) rfl)
    replace HBW := Lib.hid (HBW.out.trans (hbS.mono hle))
    clear hbS
    generalize (w14.setCell ⟨Bp, 7, none⟩ (.int .u64 Zm)) = wq6 at F_g F_r F_s F_p HBW ⊢
    obtain ⟨q1_0, q1_1, q1_2, q1_3, q1_4, q1_5, q1_6, q1_7, q1_8, q1_9, q1_10, q1_11, q1_12, q1_13, q1_14, q1_15⟩ := Arr.k8 F_r.out
    obtain ⟨q3_0, q3_1, q3_2, q3_3, q3_4, q3_5, q3_6, q3_7, q3_8, q3_9, q3_10, q3_11, q3_12, q3_13, q3_14, q3_15⟩ := Arr.k8 F_p.out
    obtain ⟨x0a, x0b, x0c, -⟩ := id F_g.out
    obtain ⟨x2a, x2b, x2c, x2d, -⟩ := id F_s.out
    go_wp2_with fail
    clear x0a x0b x0c x2a x2b x2c x2d q1_0 q1_1 q1_2 q1_3 q1_4 q1_5 q1_6 q1_7 q1_8 q1_9 q1_10 q1_11 q1_12 q1_13 q1_14 q1_15 q3_0 q3_1 q3_2 q3_3 q3_4 q3_5 q3_6 q3_7 q3_8 q3_9 q3_10 q3_11 q3_12 q3_13 q3_14 q3_15
    exact bodyPost_ret (res_bit1 rfl (F_r.out.st8 Rj Rm Sj Sm c Cm z Zm) _ rfl) rfl ⟨rfl, ((((((((HBW.out).setCell (by simp <;> omega) _).setCell (by simp <;> omega) _).setCell (by simp <;> omega) _).setCell (by simp <;> omega) _).setCell (by simp <;> omega) _).setCell (by simp <;> omega) _).setCell (by simp <;> omega) _).setCell (by simp <;> omega) _⟩

set_option maxRecDepth 100000 in
set_option maxHeartbeats 16000000 in
theorem rbitProve_any {P Q G y bm r k c z r0 r1 s0 s1 c0 c1 z0 z1 e' : Int} {tx : Option Addr} {n cp : Nat} {T : List Int} (w : World) (hT : Txt w tx n T) (hP : 0 ≤ P) (hQ : 0 ≤ Q) (hG : 0 ≤ G) (y0 : 0 ≤ y) (r0_ : 0 ≤ r) (k0_ : 0 ≤ k) (c0_ : 0 ≤ c) (z0_ : 0 ≤ z) (hn : n ≤ 8100) (h : RetBit (lgS (bitChk P Q G y bm r k c z) n) P Q G y bm r k c z T r0 r1 s0 s1 c0 c1 z0 z1 e') :
    Calls Tryd.prog 22 #[.agg #[.int .u64 P, .int .u64 Q, .int .u64 G], .int .u64 y, .int .i64 bm, .int .u64 r, .int .u64 k, .int .u64 c, .int .u64 z, .slice tx n cp] w fun e w' => e = .returned (.tuple #[.agg #[.int .u64 r0, .int .u64 r1, .int .u64 s0, .int .u64 s1, .int .u64 c0, .int .u64 c1, .int .u64 z0, .int .u64 z1], .int .i64 e']) ∧ Below w.heap.size w w' := by
  have HT := Lib.hid hT
  clear hT
  by_cases ha : askS P Q G [r, k, c, z] [y] = 0
  · obtain ⟨hH, he, hnn⟩ := askS_zero ha
    have rQ := he r (by simp)
    have kQ := he k (by simp)
    have cQ := he c (by simp)
    have zQ := he z (by simp)
    have yP := hnn y (by simp)
    have HR := Lib.hid ha
    clear he hnn
    by_cases hm : bm = 0 ∨ bm = 1
    · have hck : bitChk P Q G y bm r k c z = 0 := by rw [bitChk, if_pos ha, if_pos hm]
      rcases h with ⟨h, hZ, rfl⟩ | ⟨h, ⟨rfl, rfl, rfl, rfl, rfl, rfl, rfl, rfl⟩, hc⟩
      · obtain ⟨-, hn8⟩ := lgS_zero h
        have HLG := Lib.hid (show lgS 0 n = 0 from lgS_ok rfl hn8)
        clear h hck ha
        obtain ⟨p5, p3, hQ', pq, g2, gP⟩ := id hH
        have hP1 : 1 ≤ P := by omega
        have hGM : G < 2147483648 := by omega
        have q3 : Q < 1073741824 := by omega
        have q2 : 2 ≤ Q := by omega
        have HH := Lib.hid hH
        clear hH pq
        rcases hm with rfl | rfl
        · skip
          have HZ := Lib.hid hZ
          clear hZ
          have F_g := Lib.hid (show Boxed ((((w.alloc (.cells #[.int .u64 P, .int .u64 Q, .int .u64 G] 24)).alloc (.cells #[.int .u64 0, .int .u64 0, .int .u64 0, .int .u64 0, .int .u64 0, .int .u64 0, .int .u64 0, .int .u64 0] 54)).alloc (.cells #[.int .u64 r, .int .u64 k, .int .u64 c, .int .u64 z] 22)).alloc (.cells #[.int .u64 y] 22)) (w.heap.size) P Q G from (((Boxed.at _ P Q G _ (w.heap.size) (by simp)).alloc _).alloc _).alloc _)
          have F_es := Lib.hid (show ShL ((((w.alloc (.cells #[.int .u64 P, .int .u64 Q, .int .u64 G] 24)).alloc (.cells #[.int .u64 0, .int .u64 0, .int .u64 0, .int .u64 0, .int .u64 0, .int .u64 0, .int .u64 0, .int .u64 0] 54)).alloc (.cells #[.int .u64 r, .int .u64 k, .int .u64 c, .int .u64 z] 22)).alloc (.cells #[.int .u64 y] 22)) (some ⟨w.heap.size + 1 + 1, 0, none⟩) 4 4 [r, k, c, z] from (ShL.laid _ [r, k, c, z] _ _ (w.heap.size + 1 + 1) _ _ (by simp) rfl rfl).alloc _)
          have F_ns := Lib.hid (show ShL ((((w.alloc (.cells #[.int .u64 P, .int .u64 Q, .int .u64 G] 24)).alloc (.cells #[.int .u64 0, .int .u64 0, .int .u64 0, .int .u64 0, .int .u64 0, .int .u64 0, .int .u64 0, .int .u64 0] 54)).alloc (.cells #[.int .u64 r, .int .u64 k, .int .u64 c, .int .u64 z] 22)).alloc (.cells #[.int .u64 y] 22)) (some ⟨w.heap.size + 1 + 1 + 1, 0, none⟩) 1 1 [y] from ShL.laid _ [y] _ _ (w.heap.size + 1 + 1 + 1) _ _ (by simp) rfl rfl)
          have F_r := Lib.hid (show Arr .u64 ((((w.alloc (.cells #[.int .u64 P, .int .u64 Q, .int .u64 G] 24)).alloc (.cells #[.int .u64 0, .int .u64 0, .int .u64 0, .int .u64 0, .int .u64 0, .int .u64 0, .int .u64 0, .int .u64 0] 54)).alloc (.cells #[.int .u64 r, .int .u64 k, .int .u64 c, .int .u64 z] 22)).alloc (.cells #[.int .u64 y] 22)) (w.heap.size + 1) [0, 0, 0, 0, 0, 0, 0, 0] from ((Arr.new .u64 _ [0, 0, 0, 0, 0, 0, 0, 0] _ (w.heap.size + 1) (by simp)).alloc _).alloc _)
          have HBW := Lib.hid (show Below w.heap.size w ((((w.alloc (.cells #[.int .u64 P, .int .u64 Q, .int .u64 G] 24)).alloc (.cells #[.int .u64 0, .int .u64 0, .int .u64 0, .int .u64 0, .int .u64 0, .int .u64 0, .int .u64 0, .int .u64 0] 54)).alloc (.cells #[.int .u64 r, .int .u64 k, .int .u64 c, .int .u64 z] 22)).alloc (.cells #[.int .u64 y] 22)) from ((((Below.refl _ _).alloc (by simp <;> omega) _).alloc (by simp <;> omega) _).alloc (by simp <;> omega) _).alloc (by simp <;> omega) _)
          go_enter Tryd.func22, Tryd.ntmps22
          obtain ⟨q1_0, q1_1, q1_2, q1_3, q1_4, q1_5, q1_6, q1_7, q1_8, q1_9, q1_10, q1_11, q1_12, q1_13, q1_14, q1_15⟩ := Arr.k8 F_r.out
          obtain ⟨x0a, x0b, x0c, -⟩ := id F_g.out
          go_wp2_with fail
          clear x0a x0b x0c q1_0 q1_1 q1_2 q1_3 q1_4 q1_5 q1_6 q1_7 q1_8 q1_9 q1_10 q1_11 q1_12 q1_13 q1_14 q1_15
          refine (rAsked_any _ hP hQ hG F_es.out F_ns.out (by simp) (by simp) HR.out).mono ?_
          rintro e w1 ⟨rfl, hb1⟩
          replace F_g := Lib.hid (F_g.out.keep hb1)
          replace F_r := Lib.hid (F_r.out.keep hb1)
          replace F_es := Lib.hid (F_es.out.keep hb1)
          replace F_ns := Lib.hid (F_ns.out.keep hb1)
          replace HBW := Lib.hid (HBW.out.trans (hb1.mono HBW.out.size))
          clear hb1
          clear F_es
          clear F_ns
          obtain ⟨q1_0, q1_1, q1_2, q1_3, q1_4, q1_5, q1_6, q1_7, q1_8, q1_9, q1_10, q1_11, q1_12, q1_13, q1_14, q1_15⟩ := Arr.k8 F_r.out
          obtain ⟨x0a, x0b, x0c, -⟩ := id F_g.out
          go_wp2_with fail
          clear x0a x0b x0c q1_0 q1_1 q1_2 q1_3 q1_4 q1_5 q1_6 q1_7 q1_8 q1_9 q1_10 q1_11 q1_12 q1_13 q1_14 q1_15
          refine (rlong_any _ HLG.out).mono ?_
          rintro e w2 ⟨rfl, rfl⟩
          obtain ⟨q1_0, q1_1, q1_2, q1_3, q1_4, q1_5, q1_6, q1_7, q1_8, q1_9, q1_10, q1_11, q1_12, q1_13, q1_14, q1_15⟩ := Arr.k8 F_r.out
          obtain ⟨x0a, x0b, x0c, -⟩ := id F_g.out
          go_wp2_with fail
          clear x0a x0b x0c q1_0 q1_1 q1_2 q1_3 q1_4 q1_5 q1_6 q1_7 q1_8 q1_9 q1_10 q1_11 q1_12 q1_13 q1_14 q1_15
          refine (rBitOf_any _ (HT.out.keep HBW.out) HH.out y0 yP r0_ rQ k0_ kQ c0_ cQ z0_ zQ hn8 (by simp) HZ.out).mono ?_
          rintro e w3 ⟨rfl, hb3⟩
          replace F_g := Lib.hid (F_g.out.keep hb3)
          replace F_r := Lib.hid (F_r.out.keep hb3)
          replace HBW := Lib.hid (HBW.out.trans (hb3.mono HBW.out.size))
          clear hb3
          obtain ⟨q1_0, q1_1, q1_2, q1_3, q1_4, q1_5, q1_6, q1_7, q1_8, q1_9, q1_10, q1_11, q1_12, q1_13, q1_14, q1_15⟩ := Arr.k8 F_r.out
          obtain ⟨x0a, x0b, x0c, -⟩ := id F_g.out
          go_wp2_with fail
          exact bodyPost_ret (res_bit rfl (F_r.out.st8 r0 r1 s0 s1 c0 c1 z0 z1) _ rfl rfl) rfl ⟨rfl, ((((((((HBW.out).setCell (by simp <;> omega) _).setCell (by simp <;> omega) _).setCell (by simp <;> omega) _).setCell (by simp <;> omega) _).setCell (by simp <;> omega) _).setCell (by simp <;> omega) _).setCell (by simp <;> omega) _).setCell (by simp <;> omega) _⟩
        · skip
          have HZ := Lib.hid hZ
          clear hZ
          have F_g := Lib.hid (show Boxed ((((w.alloc (.cells #[.int .u64 P, .int .u64 Q, .int .u64 G] 24)).alloc (.cells #[.int .u64 0, .int .u64 0, .int .u64 0, .int .u64 0, .int .u64 0, .int .u64 0, .int .u64 0, .int .u64 0] 54)).alloc (.cells #[.int .u64 r, .int .u64 k, .int .u64 c, .int .u64 z] 22)).alloc (.cells #[.int .u64 y] 22)) (w.heap.size) P Q G from (((Boxed.at _ P Q G _ (w.heap.size) (by simp)).alloc _).alloc _).alloc _)
          have F_es := Lib.hid (show ShL ((((w.alloc (.cells #[.int .u64 P, .int .u64 Q, .int .u64 G] 24)).alloc (.cells #[.int .u64 0, .int .u64 0, .int .u64 0, .int .u64 0, .int .u64 0, .int .u64 0, .int .u64 0, .int .u64 0] 54)).alloc (.cells #[.int .u64 r, .int .u64 k, .int .u64 c, .int .u64 z] 22)).alloc (.cells #[.int .u64 y] 22)) (some ⟨w.heap.size + 1 + 1, 0, none⟩) 4 4 [r, k, c, z] from (ShL.laid _ [r, k, c, z] _ _ (w.heap.size + 1 + 1) _ _ (by simp) rfl rfl).alloc _)
          have F_ns := Lib.hid (show ShL ((((w.alloc (.cells #[.int .u64 P, .int .u64 Q, .int .u64 G] 24)).alloc (.cells #[.int .u64 0, .int .u64 0, .int .u64 0, .int .u64 0, .int .u64 0, .int .u64 0, .int .u64 0, .int .u64 0] 54)).alloc (.cells #[.int .u64 r, .int .u64 k, .int .u64 c, .int .u64 z] 22)).alloc (.cells #[.int .u64 y] 22)) (some ⟨w.heap.size + 1 + 1 + 1, 0, none⟩) 1 1 [y] from ShL.laid _ [y] _ _ (w.heap.size + 1 + 1 + 1) _ _ (by simp) rfl rfl)
          have F_r := Lib.hid (show Arr .u64 ((((w.alloc (.cells #[.int .u64 P, .int .u64 Q, .int .u64 G] 24)).alloc (.cells #[.int .u64 0, .int .u64 0, .int .u64 0, .int .u64 0, .int .u64 0, .int .u64 0, .int .u64 0, .int .u64 0] 54)).alloc (.cells #[.int .u64 r, .int .u64 k, .int .u64 c, .int .u64 z] 22)).alloc (.cells #[.int .u64 y] 22)) (w.heap.size + 1) [0, 0, 0, 0, 0, 0, 0, 0] from ((Arr.new .u64 _ [0, 0, 0, 0, 0, 0, 0, 0] _ (w.heap.size + 1) (by simp)).alloc _).alloc _)
          have HBW := Lib.hid (show Below w.heap.size w ((((w.alloc (.cells #[.int .u64 P, .int .u64 Q, .int .u64 G] 24)).alloc (.cells #[.int .u64 0, .int .u64 0, .int .u64 0, .int .u64 0, .int .u64 0, .int .u64 0, .int .u64 0, .int .u64 0] 54)).alloc (.cells #[.int .u64 r, .int .u64 k, .int .u64 c, .int .u64 z] 22)).alloc (.cells #[.int .u64 y] 22)) from ((((Below.refl _ _).alloc (by simp <;> omega) _).alloc (by simp <;> omega) _).alloc (by simp <;> omega) _).alloc (by simp <;> omega) _)
          go_enter Tryd.func22, Tryd.ntmps22
          obtain ⟨q1_0, q1_1, q1_2, q1_3, q1_4, q1_5, q1_6, q1_7, q1_8, q1_9, q1_10, q1_11, q1_12, q1_13, q1_14, q1_15⟩ := Arr.k8 F_r.out
          obtain ⟨x0a, x0b, x0c, -⟩ := id F_g.out
          go_wp2_with fail
          clear x0a x0b x0c q1_0 q1_1 q1_2 q1_3 q1_4 q1_5 q1_6 q1_7 q1_8 q1_9 q1_10 q1_11 q1_12 q1_13 q1_14 q1_15
          refine (rAsked_any _ hP hQ hG F_es.out F_ns.out (by simp) (by simp) HR.out).mono ?_
          rintro e w1 ⟨rfl, hb1⟩
          replace F_g := Lib.hid (F_g.out.keep hb1)
          replace F_r := Lib.hid (F_r.out.keep hb1)
          replace F_es := Lib.hid (F_es.out.keep hb1)
          replace F_ns := Lib.hid (F_ns.out.keep hb1)
          replace HBW := Lib.hid (HBW.out.trans (hb1.mono HBW.out.size))
          clear hb1
          clear F_es
          clear F_ns
          obtain ⟨q1_0, q1_1, q1_2, q1_3, q1_4, q1_5, q1_6, q1_7, q1_8, q1_9, q1_10, q1_11, q1_12, q1_13, q1_14, q1_15⟩ := Arr.k8 F_r.out
          obtain ⟨x0a, x0b, x0c, -⟩ := id F_g.out
          go_wp2_with fail
          clear x0a x0b x0c q1_0 q1_1 q1_2 q1_3 q1_4 q1_5 q1_6 q1_7 q1_8 q1_9 q1_10 q1_11 q1_12 q1_13 q1_14 q1_15
          refine (rlong_any _ HLG.out).mono ?_
          rintro e w2 ⟨rfl, rfl⟩
          obtain ⟨q1_0, q1_1, q1_2, q1_3, q1_4, q1_5, q1_6, q1_7, q1_8, q1_9, q1_10, q1_11, q1_12, q1_13, q1_14, q1_15⟩ := Arr.k8 F_r.out
          obtain ⟨x0a, x0b, x0c, -⟩ := id F_g.out
          go_wp2_with fail
          clear x0a x0b x0c q1_0 q1_1 q1_2 q1_3 q1_4 q1_5 q1_6 q1_7 q1_8 q1_9 q1_10 q1_11 q1_12 q1_13 q1_14 q1_15
          refine (rBitOf_any _ (HT.out.keep HBW.out) HH.out y0 yP r0_ rQ k0_ kQ c0_ cQ z0_ zQ hn8 (by simp) HZ.out).mono ?_
          rintro e w3 ⟨rfl, hb3⟩
          replace F_g := Lib.hid (F_g.out.keep hb3)
          replace F_r := Lib.hid (F_r.out.keep hb3)
          replace HBW := Lib.hid (HBW.out.trans (hb3.mono HBW.out.size))
          clear hb3
          obtain ⟨q1_0, q1_1, q1_2, q1_3, q1_4, q1_5, q1_6, q1_7, q1_8, q1_9, q1_10, q1_11, q1_12, q1_13, q1_14, q1_15⟩ := Arr.k8 F_r.out
          obtain ⟨x0a, x0b, x0c, -⟩ := id F_g.out
          go_wp2_with fail
          exact bodyPost_ret (res_bit rfl (F_r.out.st8 r0 r1 s0 s1 c0 c1 z0 z1) _ rfl rfl) rfl ⟨rfl, ((((((((HBW.out).setCell (by simp <;> omega) _).setCell (by simp <;> omega) _).setCell (by simp <;> omega) _).setCell (by simp <;> omega) _).setCell (by simp <;> omega) _).setCell (by simp <;> omega) _).setCell (by simp <;> omega) _).setCell (by simp <;> omega) _⟩
      · have hn8 := lgS_long hck h
        obtain rfl : e' = 4 := by rw [hc]; exact lgS_four hck hn8
        have HLG := Lib.hid (show lgS 0 n = 4 from lgS_four rfl hn8)
        clear h hc hck ha hH
        rcases hm with rfl | rfl
        · skip
          have F_g := Lib.hid (show Boxed ((((w.alloc (.cells #[.int .u64 P, .int .u64 Q, .int .u64 G] 24)).alloc (.cells #[.int .u64 0, .int .u64 0, .int .u64 0, .int .u64 0, .int .u64 0, .int .u64 0, .int .u64 0, .int .u64 0] 54)).alloc (.cells #[.int .u64 r, .int .u64 k, .int .u64 c, .int .u64 z] 22)).alloc (.cells #[.int .u64 y] 22)) (w.heap.size) P Q G from (((Boxed.at _ P Q G _ (w.heap.size) (by simp)).alloc _).alloc _).alloc _)
          have F_es := Lib.hid (show ShL ((((w.alloc (.cells #[.int .u64 P, .int .u64 Q, .int .u64 G] 24)).alloc (.cells #[.int .u64 0, .int .u64 0, .int .u64 0, .int .u64 0, .int .u64 0, .int .u64 0, .int .u64 0, .int .u64 0] 54)).alloc (.cells #[.int .u64 r, .int .u64 k, .int .u64 c, .int .u64 z] 22)).alloc (.cells #[.int .u64 y] 22)) (some ⟨w.heap.size + 1 + 1, 0, none⟩) 4 4 [r, k, c, z] from (ShL.laid _ [r, k, c, z] _ _ (w.heap.size + 1 + 1) _ _ (by simp) rfl rfl).alloc _)
          have F_ns := Lib.hid (show ShL ((((w.alloc (.cells #[.int .u64 P, .int .u64 Q, .int .u64 G] 24)).alloc (.cells #[.int .u64 0, .int .u64 0, .int .u64 0, .int .u64 0, .int .u64 0, .int .u64 0, .int .u64 0, .int .u64 0] 54)).alloc (.cells #[.int .u64 r, .int .u64 k, .int .u64 c, .int .u64 z] 22)).alloc (.cells #[.int .u64 y] 22)) (some ⟨w.heap.size + 1 + 1 + 1, 0, none⟩) 1 1 [y] from ShL.laid _ [y] _ _ (w.heap.size + 1 + 1 + 1) _ _ (by simp) rfl rfl)
          have F_r := Lib.hid (show Arr .u64 ((((w.alloc (.cells #[.int .u64 P, .int .u64 Q, .int .u64 G] 24)).alloc (.cells #[.int .u64 0, .int .u64 0, .int .u64 0, .int .u64 0, .int .u64 0, .int .u64 0, .int .u64 0, .int .u64 0] 54)).alloc (.cells #[.int .u64 r, .int .u64 k, .int .u64 c, .int .u64 z] 22)).alloc (.cells #[.int .u64 y] 22)) (w.heap.size + 1) [0, 0, 0, 0, 0, 0, 0, 0] from ((Arr.new .u64 _ [0, 0, 0, 0, 0, 0, 0, 0] _ (w.heap.size + 1) (by simp)).alloc _).alloc _)
          have HBW := Lib.hid (show Below w.heap.size w ((((w.alloc (.cells #[.int .u64 P, .int .u64 Q, .int .u64 G] 24)).alloc (.cells #[.int .u64 0, .int .u64 0, .int .u64 0, .int .u64 0, .int .u64 0, .int .u64 0, .int .u64 0, .int .u64 0] 54)).alloc (.cells #[.int .u64 r, .int .u64 k, .int .u64 c, .int .u64 z] 22)).alloc (.cells #[.int .u64 y] 22)) from ((((Below.refl _ _).alloc (by simp <;> omega) _).alloc (by simp <;> omega) _).alloc (by simp <;> omega) _).alloc (by simp <;> omega) _)
          go_enter Tryd.func22, Tryd.ntmps22
          obtain ⟨q1_0, q1_1, q1_2, q1_3, q1_4, q1_5, q1_6, q1_7, q1_8, q1_9, q1_10, q1_11, q1_12, q1_13, q1_14, q1_15⟩ := Arr.k8 F_r.out
          obtain ⟨x0a, x0b, x0c, -⟩ := id F_g.out
          go_wp2_with fail
          clear x0a x0b x0c q1_0 q1_1 q1_2 q1_3 q1_4 q1_5 q1_6 q1_7 q1_8 q1_9 q1_10 q1_11 q1_12 q1_13 q1_14 q1_15
          refine (rAsked_any _ hP hQ hG F_es.out F_ns.out (by simp) (by simp) HR.out).mono ?_
          rintro e w1 ⟨rfl, hb1⟩
          replace F_g := Lib.hid (F_g.out.keep hb1)
          replace F_r := Lib.hid (F_r.out.keep hb1)
          replace F_es := Lib.hid (F_es.out.keep hb1)
          replace F_ns := Lib.hid (F_ns.out.keep hb1)
          replace HBW := Lib.hid (HBW.out.trans (hb1.mono HBW.out.size))
          clear hb1
          clear F_es
          clear F_ns
          obtain ⟨q1_0, q1_1, q1_2, q1_3, q1_4, q1_5, q1_6, q1_7, q1_8, q1_9, q1_10, q1_11, q1_12, q1_13, q1_14, q1_15⟩ := Arr.k8 F_r.out
          obtain ⟨x0a, x0b, x0c, -⟩ := id F_g.out
          go_wp2_with fail
          clear x0a x0b x0c q1_0 q1_1 q1_2 q1_3 q1_4 q1_5 q1_6 q1_7 q1_8 q1_9 q1_10 q1_11 q1_12 q1_13 q1_14 q1_15
          refine (rlong_any _ HLG.out).mono ?_
          rintro e w2 ⟨rfl, rfl⟩
          obtain ⟨q1_0, q1_1, q1_2, q1_3, q1_4, q1_5, q1_6, q1_7, q1_8, q1_9, q1_10, q1_11, q1_12, q1_13, q1_14, q1_15⟩ := Arr.k8 F_r.out
          obtain ⟨x0a, x0b, x0c, -⟩ := id F_g.out
          go_wp2_with fail
          exact bodyPost_ret (res_bit rfl (F_r.out.st8 0 0 0 0 0 0 0 0) _ rfl rfl) rfl ⟨rfl, ((((((((HBW.out).setCell (by simp <;> omega) _).setCell (by simp <;> omega) _).setCell (by simp <;> omega) _).setCell (by simp <;> omega) _).setCell (by simp <;> omega) _).setCell (by simp <;> omega) _).setCell (by simp <;> omega) _).setCell (by simp <;> omega) _⟩
        · skip
          have F_g := Lib.hid (show Boxed ((((w.alloc (.cells #[.int .u64 P, .int .u64 Q, .int .u64 G] 24)).alloc (.cells #[.int .u64 0, .int .u64 0, .int .u64 0, .int .u64 0, .int .u64 0, .int .u64 0, .int .u64 0, .int .u64 0] 54)).alloc (.cells #[.int .u64 r, .int .u64 k, .int .u64 c, .int .u64 z] 22)).alloc (.cells #[.int .u64 y] 22)) (w.heap.size) P Q G from (((Boxed.at _ P Q G _ (w.heap.size) (by simp)).alloc _).alloc _).alloc _)
          have F_es := Lib.hid (show ShL ((((w.alloc (.cells #[.int .u64 P, .int .u64 Q, .int .u64 G] 24)).alloc (.cells #[.int .u64 0, .int .u64 0, .int .u64 0, .int .u64 0, .int .u64 0, .int .u64 0, .int .u64 0, .int .u64 0] 54)).alloc (.cells #[.int .u64 r, .int .u64 k, .int .u64 c, .int .u64 z] 22)).alloc (.cells #[.int .u64 y] 22)) (some ⟨w.heap.size + 1 + 1, 0, none⟩) 4 4 [r, k, c, z] from (ShL.laid _ [r, k, c, z] _ _ (w.heap.size + 1 + 1) _ _ (by simp) rfl rfl).alloc _)
          have F_ns := Lib.hid (show ShL ((((w.alloc (.cells #[.int .u64 P, .int .u64 Q, .int .u64 G] 24)).alloc (.cells #[.int .u64 0, .int .u64 0, .int .u64 0, .int .u64 0, .int .u64 0, .int .u64 0, .int .u64 0, .int .u64 0] 54)).alloc (.cells #[.int .u64 r, .int .u64 k, .int .u64 c, .int .u64 z] 22)).alloc (.cells #[.int .u64 y] 22)) (some ⟨w.heap.size + 1 + 1 + 1, 0, none⟩) 1 1 [y] from ShL.laid _ [y] _ _ (w.heap.size + 1 + 1 + 1) _ _ (by simp) rfl rfl)
          have F_r := Lib.hid (show Arr .u64 ((((w.alloc (.cells #[.int .u64 P, .int .u64 Q, .int .u64 G] 24)).alloc (.cells #[.int .u64 0, .int .u64 0, .int .u64 0, .int .u64 0, .int .u64 0, .int .u64 0, .int .u64 0, .int .u64 0] 54)).alloc (.cells #[.int .u64 r, .int .u64 k, .int .u64 c, .int .u64 z] 22)).alloc (.cells #[.int .u64 y] 22)) (w.heap.size + 1) [0, 0, 0, 0, 0, 0, 0, 0] from ((Arr.new .u64 _ [0, 0, 0, 0, 0, 0, 0, 0] _ (w.heap.size + 1) (by simp)).alloc _).alloc _)
          have HBW := Lib.hid (show Below w.heap.size w ((((w.alloc (.cells #[.int .u64 P, .int .u64 Q, .int .u64 G] 24)).alloc (.cells #[.int .u64 0, .int .u64 0, .int .u64 0, .int .u64 0, .int .u64 0, .int .u64 0, .int .u64 0, .int .u64 0] 54)).alloc (.cells #[.int .u64 r, .int .u64 k, .int .u64 c, .int .u64 z] 22)).alloc (.cells #[.int .u64 y] 22)) from ((((Below.refl _ _).alloc (by simp <;> omega) _).alloc (by simp <;> omega) _).alloc (by simp <;> omega) _).alloc (by simp <;> omega) _)
          go_enter Tryd.func22, Tryd.ntmps22
          obtain ⟨q1_0, q1_1, q1_2, q1_3, q1_4, q1_5, q1_6, q1_7, q1_8, q1_9, q1_10, q1_11, q1_12, q1_13, q1_14, q1_15⟩ := Arr.k8 F_r.out
          obtain ⟨x0a, x0b, x0c, -⟩ := id F_g.out
          go_wp2_with fail
          clear x0a x0b x0c q1_0 q1_1 q1_2 q1_3 q1_4 q1_5 q1_6 q1_7 q1_8 q1_9 q1_10 q1_11 q1_12 q1_13 q1_14 q1_15
          refine (rAsked_any _ hP hQ hG F_es.out F_ns.out (by simp) (by simp) HR.out).mono ?_
          rintro e w1 ⟨rfl, hb1⟩
          replace F_g := Lib.hid (F_g.out.keep hb1)
          replace F_r := Lib.hid (F_r.out.keep hb1)
          replace F_es := Lib.hid (F_es.out.keep hb1)
          replace F_ns := Lib.hid (F_ns.out.keep hb1)
          replace HBW := Lib.hid (HBW.out.trans (hb1.mono HBW.out.size))
          clear hb1
          clear F_es
          clear F_ns
          obtain ⟨q1_0, q1_1, q1_2, q1_3, q1_4, q1_5, q1_6, q1_7, q1_8, q1_9, q1_10, q1_11, q1_12, q1_13, q1_14, q1_15⟩ := Arr.k8 F_r.out
          obtain ⟨x0a, x0b, x0c, -⟩ := id F_g.out
          go_wp2_with fail
          clear x0a x0b x0c q1_0 q1_1 q1_2 q1_3 q1_4 q1_5 q1_6 q1_7 q1_8 q1_9 q1_10 q1_11 q1_12 q1_13 q1_14 q1_15
          refine (rlong_any _ HLG.out).mono ?_
          rintro e w2 ⟨rfl, rfl⟩
          obtain ⟨q1_0, q1_1, q1_2, q1_3, q1_4, q1_5, q1_6, q1_7, q1_8, q1_9, q1_10, q1_11, q1_12, q1_13, q1_14, q1_15⟩ := Arr.k8 F_r.out
          obtain ⟨x0a, x0b, x0c, -⟩ := id F_g.out
          go_wp2_with fail
          exact bodyPost_ret (res_bit rfl (F_r.out.st8 0 0 0 0 0 0 0 0) _ rfl rfl) rfl ⟨rfl, ((((((((HBW.out).setCell (by simp <;> omega) _).setCell (by simp <;> omega) _).setCell (by simp <;> omega) _).setCell (by simp <;> omega) _).setCell (by simp <;> omega) _).setCell (by simp <;> omega) _).setCell (by simp <;> omega) _).setCell (by simp <;> omega) _⟩
    · have hck : bitChk P Q G y bm r k c z = 2 := by rw [bitChk, if_pos ha, if_neg hm]
      rcases h with ⟨h, -⟩ | ⟨h, ⟨rfl, rfl, rfl, rfl, rfl, rfl, rfl, rfl⟩, hc⟩
      · rw [hck, lgS_ne (by decide)] at h
        exact absurd h (by decide)
      · obtain rfl : e' = 2 := by rw [hc, hck]; exact lgS_ne (by decide)
        have hm0 : (bm != 0) = true := by simp; omega
        have hm1 : (bm != 1) = true := by simp; omega
        have hm2 : (bm == 0) = false := by simp; omega
        have hm3 : (bm == 1) = false := by simp; omega
        have HLG := Lib.hid (show lgS 2 n = 2 from lgS_ne (by decide))
        clear h hc hck ha hH hm
        have F_g := Lib.hid (show Boxed ((((w.alloc (.cells #[.int .u64 P, .int .u64 Q, .int .u64 G] 24)).alloc (.cells #[.int .u64 0, .int .u64 0, .int .u64 0, .int .u64 0, .int .u64 0, .int .u64 0, .int .u64 0, .int .u64 0] 54)).alloc (.cells #[.int .u64 r, .int .u64 k, .int .u64 c, .int .u64 z] 22)).alloc (.cells #[.int .u64 y] 22)) (w.heap.size) P Q G from (((Boxed.at _ P Q G _ (w.heap.size) (by simp)).alloc _).alloc _).alloc _)
        have F_es := Lib.hid (show ShL ((((w.alloc (.cells #[.int .u64 P, .int .u64 Q, .int .u64 G] 24)).alloc (.cells #[.int .u64 0, .int .u64 0, .int .u64 0, .int .u64 0, .int .u64 0, .int .u64 0, .int .u64 0, .int .u64 0] 54)).alloc (.cells #[.int .u64 r, .int .u64 k, .int .u64 c, .int .u64 z] 22)).alloc (.cells #[.int .u64 y] 22)) (some ⟨w.heap.size + 1 + 1, 0, none⟩) 4 4 [r, k, c, z] from (ShL.laid _ [r, k, c, z] _ _ (w.heap.size + 1 + 1) _ _ (by simp) rfl rfl).alloc _)
        have F_ns := Lib.hid (show ShL ((((w.alloc (.cells #[.int .u64 P, .int .u64 Q, .int .u64 G] 24)).alloc (.cells #[.int .u64 0, .int .u64 0, .int .u64 0, .int .u64 0, .int .u64 0, .int .u64 0, .int .u64 0, .int .u64 0] 54)).alloc (.cells #[.int .u64 r, .int .u64 k, .int .u64 c, .int .u64 z] 22)).alloc (.cells #[.int .u64 y] 22)) (some ⟨w.heap.size + 1 + 1 + 1, 0, none⟩) 1 1 [y] from ShL.laid _ [y] _ _ (w.heap.size + 1 + 1 + 1) _ _ (by simp) rfl rfl)
        have F_r := Lib.hid (show Arr .u64 ((((w.alloc (.cells #[.int .u64 P, .int .u64 Q, .int .u64 G] 24)).alloc (.cells #[.int .u64 0, .int .u64 0, .int .u64 0, .int .u64 0, .int .u64 0, .int .u64 0, .int .u64 0, .int .u64 0] 54)).alloc (.cells #[.int .u64 r, .int .u64 k, .int .u64 c, .int .u64 z] 22)).alloc (.cells #[.int .u64 y] 22)) (w.heap.size + 1) [0, 0, 0, 0, 0, 0, 0, 0] from ((Arr.new .u64 _ [0, 0, 0, 0, 0, 0, 0, 0] _ (w.heap.size + 1) (by simp)).alloc _).alloc _)
        have HBW := Lib.hid (show Below w.heap.size w ((((w.alloc (.cells #[.int .u64 P, .int .u64 Q, .int .u64 G] 24)).alloc (.cells #[.int .u64 0, .int .u64 0, .int .u64 0, .int .u64 0, .int .u64 0, .int .u64 0, .int .u64 0, .int .u64 0] 54)).alloc (.cells #[.int .u64 r, .int .u64 k, .int .u64 c, .int .u64 z] 22)).alloc (.cells #[.int .u64 y] 22)) from ((((Below.refl _ _).alloc (by simp <;> omega) _).alloc (by simp <;> omega) _).alloc (by simp <;> omega) _).alloc (by simp <;> omega) _)
        go_enter Tryd.func22, Tryd.ntmps22
        obtain ⟨q1_0, q1_1, q1_2, q1_3, q1_4, q1_5, q1_6, q1_7, q1_8, q1_9, q1_10, q1_11, q1_12, q1_13, q1_14, q1_15⟩ := Arr.k8 F_r.out
        obtain ⟨x0a, x0b, x0c, -⟩ := id F_g.out
        go_wp2_with fail
        clear x0a x0b x0c q1_0 q1_1 q1_2 q1_3 q1_4 q1_5 q1_6 q1_7 q1_8 q1_9 q1_10 q1_11 q1_12 q1_13 q1_14 q1_15
        refine (rAsked_any _ hP hQ hG F_es.out F_ns.out (by simp) (by simp) HR.out).mono ?_
        rintro e w1 ⟨rfl, hb1⟩
        replace F_g := Lib.hid (F_g.out.keep hb1)
        replace F_r := Lib.hid (F_r.out.keep hb1)
        replace F_es := Lib.hid (F_es.out.keep hb1)
        replace F_ns := Lib.hid (F_ns.out.keep hb1)
        replace HBW := Lib.hid (HBW.out.trans (hb1.mono HBW.out.size))
        clear hb1
        clear F_es
        clear F_ns
        obtain ⟨q1_0, q1_1, q1_2, q1_3, q1_4, q1_5, q1_6, q1_7, q1_8, q1_9, q1_10, q1_11, q1_12, q1_13, q1_14, q1_15⟩ := Arr.k8 F_r.out
        obtain ⟨x0a, x0b, x0c, -⟩ := id F_g.out
        go_wp2_with fail
        clear x0a x0b x0c q1_0 q1_1 q1_2 q1_3 q1_4 q1_5 q1_6 q1_7 q1_8 q1_9 q1_10 q1_11 q1_12 q1_13 q1_14 q1_15
        refine (rlong_any _ HLG.out).mono ?_
        rintro e w2 ⟨rfl, rfl⟩
        obtain ⟨q1_0, q1_1, q1_2, q1_3, q1_4, q1_5, q1_6, q1_7, q1_8, q1_9, q1_10, q1_11, q1_12, q1_13, q1_14, q1_15⟩ := Arr.k8 F_r.out
        obtain ⟨x0a, x0b, x0c, -⟩ := id F_g.out
        go_wp2_with fail
        exact bodyPost_ret (res_bit rfl (F_r.out.st8 0 0 0 0 0 0 0 0) _ rfl rfl) rfl ⟨rfl, ((((((((HBW.out).setCell (by simp <;> omega) _).setCell (by simp <;> omega) _).setCell (by simp <;> omega) _).setCell (by simp <;> omega) _).setCell (by simp <;> omega) _).setCell (by simp <;> omega) _).setCell (by simp <;> omega) _).setCell (by simp <;> omega) _⟩
  · have hck : bitChk P Q G y bm r k c z = askS P Q G [r, k, c, z] [y] := by rw [bitChk, if_neg ha]
    rcases h with ⟨h, -⟩ | ⟨h, ⟨rfl, rfl, rfl, rfl, rfl, rfl, rfl, rfl⟩, hc⟩
    · rw [hck, lgS_ne ha] at h
      exact absurd h ha
    · have hc' : e' = askS P Q G [r, k, c, z] [y] := by rw [hc, hck]; exact lgS_ne ha
      have hnc : e' ≠ 0 := by rw [hc']; exact ha
      have hn1 : (e' != 0) = true := by simpa using hnc
      have hn2 : (e' == 0) = false := by simpa using hnc
      have HR := Lib.hid hc'.symm
      have HLG := Lib.hid (show lgS e' n = e' from lgS_ne hnc)
      clear h hc ha hck hc' hnc
      have F_g := Lib.hid (show Boxed ((((w.alloc (.cells #[.int .u64 P, .int .u64 Q, .int .u64 G] 24)).alloc (.cells #[.int .u64 0, .int .u64 0, .int .u64 0, .int .u64 0, .int .u64 0, .int .u64 0, .int .u64 0, .int .u64 0] 54)).alloc (.cells #[.int .u64 r, .int .u64 k, .int .u64 c, .int .u64 z] 22)).alloc (.cells #[.int .u64 y] 22)) (w.heap.size) P Q G from (((Boxed.at _ P Q G _ (w.heap.size) (by simp)).alloc _).alloc _).alloc _)
      have F_es := Lib.hid (show ShL ((((w.alloc (.cells #[.int .u64 P, .int .u64 Q, .int .u64 G] 24)).alloc (.cells #[.int .u64 0, .int .u64 0, .int .u64 0, .int .u64 0, .int .u64 0, .int .u64 0, .int .u64 0, .int .u64 0] 54)).alloc (.cells #[.int .u64 r, .int .u64 k, .int .u64 c, .int .u64 z] 22)).alloc (.cells #[.int .u64 y] 22)) (some ⟨w.heap.size + 1 + 1, 0, none⟩) 4 4 [r, k, c, z] from (ShL.laid _ [r, k, c, z] _ _ (w.heap.size + 1 + 1) _ _ (by simp) rfl rfl).alloc _)
      have F_ns := Lib.hid (show ShL ((((w.alloc (.cells #[.int .u64 P, .int .u64 Q, .int .u64 G] 24)).alloc (.cells #[.int .u64 0, .int .u64 0, .int .u64 0, .int .u64 0, .int .u64 0, .int .u64 0, .int .u64 0, .int .u64 0] 54)).alloc (.cells #[.int .u64 r, .int .u64 k, .int .u64 c, .int .u64 z] 22)).alloc (.cells #[.int .u64 y] 22)) (some ⟨w.heap.size + 1 + 1 + 1, 0, none⟩) 1 1 [y] from ShL.laid _ [y] _ _ (w.heap.size + 1 + 1 + 1) _ _ (by simp) rfl rfl)
      have F_r := Lib.hid (show Arr .u64 ((((w.alloc (.cells #[.int .u64 P, .int .u64 Q, .int .u64 G] 24)).alloc (.cells #[.int .u64 0, .int .u64 0, .int .u64 0, .int .u64 0, .int .u64 0, .int .u64 0, .int .u64 0, .int .u64 0] 54)).alloc (.cells #[.int .u64 r, .int .u64 k, .int .u64 c, .int .u64 z] 22)).alloc (.cells #[.int .u64 y] 22)) (w.heap.size + 1) [0, 0, 0, 0, 0, 0, 0, 0] from ((Arr.new .u64 _ [0, 0, 0, 0, 0, 0, 0, 0] _ (w.heap.size + 1) (by simp)).alloc _).alloc _)
      have HBW := Lib.hid (show Below w.heap.size w ((((w.alloc (.cells #[.int .u64 P, .int .u64 Q, .int .u64 G] 24)).alloc (.cells #[.int .u64 0, .int .u64 0, .int .u64 0, .int .u64 0, .int .u64 0, .int .u64 0, .int .u64 0, .int .u64 0] 54)).alloc (.cells #[.int .u64 r, .int .u64 k, .int .u64 c, .int .u64 z] 22)).alloc (.cells #[.int .u64 y] 22)) from ((((Below.refl _ _).alloc (by simp <;> omega) _).alloc (by simp <;> omega) _).alloc (by simp <;> omega) _).alloc (by simp <;> omega) _)
      go_enter Tryd.func22, Tryd.ntmps22
      obtain ⟨q1_0, q1_1, q1_2, q1_3, q1_4, q1_5, q1_6, q1_7, q1_8, q1_9, q1_10, q1_11, q1_12, q1_13, q1_14, q1_15⟩ := Arr.k8 F_r.out
      obtain ⟨x0a, x0b, x0c, -⟩ := id F_g.out
      go_wp2_with fail
      clear x0a x0b x0c q1_0 q1_1 q1_2 q1_3 q1_4 q1_5 q1_6 q1_7 q1_8 q1_9 q1_10 q1_11 q1_12 q1_13 q1_14 q1_15
      refine (rAsked_any _ hP hQ hG F_es.out F_ns.out (by simp) (by simp) HR.out).mono ?_
      rintro e w1 ⟨rfl, hb1⟩
      replace F_g := Lib.hid (F_g.out.keep hb1)
      replace F_r := Lib.hid (F_r.out.keep hb1)
      replace F_es := Lib.hid (F_es.out.keep hb1)
      replace F_ns := Lib.hid (F_ns.out.keep hb1)
      replace HBW := Lib.hid (HBW.out.trans (hb1.mono HBW.out.size))
      clear hb1
      clear F_es
      clear F_ns
      obtain ⟨q1_0, q1_1, q1_2, q1_3, q1_4, q1_5, q1_6, q1_7, q1_8, q1_9, q1_10, q1_11, q1_12, q1_13, q1_14, q1_15⟩ := Arr.k8 F_r.out
      obtain ⟨x0a, x0b, x0c, -⟩ := id F_g.out
      go_wp2_with fail
      clear x0a x0b x0c q1_0 q1_1 q1_2 q1_3 q1_4 q1_5 q1_6 q1_7 q1_8 q1_9 q1_10 q1_11 q1_12 q1_13 q1_14 q1_15
      refine (rlong_any _ HLG.out).mono ?_
      rintro e w2 ⟨rfl, rfl⟩
      obtain ⟨q1_0, q1_1, q1_2, q1_3, q1_4, q1_5, q1_6, q1_7, q1_8, q1_9, q1_10, q1_11, q1_12, q1_13, q1_14, q1_15⟩ := Arr.k8 F_r.out
      obtain ⟨x0a, x0b, x0c, -⟩ := id F_g.out
      go_wp2_with fail
      exact bodyPost_ret (res_bit rfl (F_r.out.st8 0 0 0 0 0 0 0 0) _ rfl rfl) rfl ⟨rfl, ((((((((HBW.out).setCell (by simp <;> omega) _).setCell (by simp <;> omega) _).setCell (by simp <;> omega) _).setCell (by simp <;> omega) _).setCell (by simp <;> omega) _).setCell (by simp <;> omega) _).setCell (by simp <;> omega) _).setCell (by simp <;> omega) _⟩
end Go.Proofs.YtmcpfinnhgbcpaaDoor
