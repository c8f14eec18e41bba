/- The reference's BitOf, BitProve. -/
import Derived.Test.YtlbldpkgnonbpaaGreatDoorZqP
set_option linter.unusedSimpArgs false
set_option linter.unusedVariables false
set_option maxRecDepth 100000
namespace Go.Proofs.YtlbldpkgnonbpaaGreatDoor
open Go Go.RowKit Num Sha
theorem powm_zero_one {G P : Int} (h : 1 < P) : powm G 0 P = 1 := by
 unfold powm
 simp
 exact Int.emod_eq_of_lt (by omega) h
set_option maxHeartbeats 16000000 in
theorem rBitOf_any {P Q G y bm r k c z r0 r1 s0 s1 c0 c1 z0 z1 : Int} {tx : Option Addr} {n cp : Nat} {T : List Int} (w : World) (hT : Txt w tx n T) (hH : Has P Q G) (y0 : 0 ≤ y) (yP : y < P) (r0_ : 0 ≤ r) (rQ : r < Q) (k0_ : 0 ≤ k) (kQ : k < Q) (c0_ : 0 ≤ c) (cQ : c < Q) (z0_ : 0 ≤ z) (zQ : z < Q) (hn8 : n ≤ 8000) (hm : bm = 0 ∨ bm = 1) (hZ : BitZ P Q G y bm r k c z T r0 r1 s0 s1 c0 c1 z0 z1) :
    Calls Tryz.prog 79 #[.agg #[.int .u64 P, .int .u64 Q, .int .u64 G], .int .u64 y, .int .i64 bm, .int .u64 r, .int .u64 k, .int .u64 c, .int .u64 z, .slice tx n cp] w fun e w' => e = .returned (.agg #[.int .u64 r0, .int .u64 r1, .int .u64 s0, .int .u64 s1, .int .u64 c0, .int .u64 c1, .int .u64 z0, .int .u64 z1]) ∧ Below w.heap.size w w' := by
  have HT := Lh hT
  clear hT
  obtain ⟨p5, p3, hQ', pq, g2, gP⟩ := id hH
  have hP1 : 1 ≤ P := by omega
  have hGM : G < 2147483648 := by omega
  have q3 : Q < 1073741824 := by omega
  have q2 : 2 ≤ Q := by omega
  have HH := Lh hH
  clear hH pq
  rcases hm with rfl | rfl
  · skip
    obtain ⟨a, b, nn, pp, t1, mi, g1, g2, Rj, h1, h2, Sj, Rm, Sm, tot, Cm, Zm, ha, hb, hnn, hpp, ht1, hmi, hg1, hg2, hrj, hh1, hh2, hsj, hrm, hsm, htt, hcm, hzm, hf⟩ := hZ
    rw [if_pos rfl] at hh2 htt hf
    obtain ⟨q1, q2, q3_, q4, q5, q6, q7, q8⟩ := hf
    replace q1 := q1.symm
    subst q1
    replace q2 := q2.symm
    subst q2
    replace q3_ := q3_.symm
    subst q3_
    replace q4 := q4.symm
    subst q4
    replace q5 := q5.symm
    subst q5
    replace q6 := q6.symm
    subst q6
    replace q7 := q7.symm
    subst q7
    replace q8 := q8.symm
    subst q8
    have y0_ := y0
    have aa0 : 0 ≤ a := by rw [← ha]; exact powm_nonneg (by omega)
    have aaP : a < P := by rw [← ha]; exact powm_lt (by omega)
    have bb0 : 0 ≤ b := by rw [← hb]; exact Int.emod_nonneg _ (by omega)
    have bbP : b < P := by rw [← hb]; exact Int.emod_lt_of_pos _ (by omega)
    have t10 : 0 ≤ t1 := by rw [← ht1]; exact Int.emod_nonneg _ (by omega)
    have t1P : t1 < P := by rw [← ht1]; exact Int.emod_lt_of_pos _ (by omega)
    have tj0 : 0 ≤ t1 := by assumption
    have tjP : t1 < P := by assumption
    have mi0 : 0 ≤ mi := by rw [← hmi]; exact Int.emod_nonneg _ (by omega)
    have miQ : mi < Q := by rw [← hmi]; exact Int.emod_lt_of_pos _ (by omega)
    have g10 : 0 ≤ g1 := by rw [← hg1]; exact powm_nonneg (by omega)
    have g1P : g1 < P := by rw [← hg1]; exact powm_lt (by omega)
    have g20 : 0 ≤ g2 := by rw [← hg2]; exact powm_nonneg (by omega)
    have g2P : g2 < P := by rw [← hg2]; exact powm_lt (by omega)
    have h10 : 0 ≤ h1 := by rw [← hh1]; exact powm_nonneg (by omega)
    have h1P : h1 < P := by rw [← hh1]; exact powm_lt (by omega)
    have h20 : 0 ≤ h2 := by rw [← hh2]; exact powm_nonneg (by omega)
    have h2P : h2 < P := by rw [← hh2]; exact powm_lt (by omega)
    have rj0 : 0 ≤ Rj := by rw [← hrj]; exact Int.emod_nonneg _ (by omega)
    have rjP : Rj < P := by rw [← hrj]; exact Int.emod_lt_of_pos _ (by omega)
    have sj0 : 0 ≤ Sj := by rw [← hsj]; exact Int.emod_nonneg _ (by omega)
    have sjP : Sj < P := by rw [← hsj]; exact Int.emod_lt_of_pos _ (by omega)
    have rm0 : 0 ≤ Rm := by rw [← hrm]; exact powm_nonneg (by omega)
    have rmP : Rm < P := by rw [← hrm]; exact powm_lt (by omega)
    have sm0 : 0 ≤ Sm := by rw [← hsm]; exact powm_nonneg (by omega)
    have smP : Sm < P := by rw [← hsm]; exact powm_lt (by omega)
    obtain ⟨tot0, totQ⟩ : 0 ≤ tot ∧ tot < Q := by rw [← htt]; exact chV_range (by omega) _ _
    have cm0 : 0 ≤ Cm := by rw [← hcm]; exact Int.emod_nonneg _ (by omega)
    have cmQ : Cm < Q := by rw [← hcm]; exact Int.emod_lt_of_pos _ (by omega)
    have UZ := Lh (U64.of_lt z0_ (by omega))
    have UK := Lh (U64.of_lt k0_ (by omega))
    have UM := Lh (U64.of_lt mi0 (by omega))
    have HUS := Lh (show ∀ x, x ∈ [y, a, b, Rm, Sm, Rj, Sj] → U64 x from fun x hx => by
     simp at hx
     rcases hx with rfl | rfl | rfl | rfl | rfl | rfl | rfl <;> exact U64.of_lt (by assumption) (by omega))
    have HA := Lh ha
    have HB := Lh hb
    have HNN := Lh hnn
    have HPP := Lh hpp
    have HT1 := Lh ht1
    have HMI := Lh hmi
    have HG1 := Lh hg1
    have HG2 := Lh hg2
    have HRJ := Lh hrj
    have HH1 := Lh hh1
    have HH2 := Lh hh2
    have HSJ := Lh hsj
    have HRM := Lh hrm
    have HSM := Lh hsm
    have HTT := Lh htt
    have HCM := Lh hcm
    have HZS := Lh (show RetS (askS P Q G [r, k, Cm] []) ((k + Cm * r % Q) % Q) Zm 0 from .inl ⟨askS_ok HH.o (by simp; omega) (by simp), hzm.symm, rfl⟩)
    obtain ⟨k1, k2⟩ := mul_bound g10 (show g1 < 2147483648 by omega) g20 (show g2 < 2147483648 by omega)
    have k3 := wrap_u k1 (by omega)
    have k4 : (g1 * g2).tmod P = Rj := (tmod_u k1).trans hrj
    have k7 := wrap_u rj0 (by omega)
    obtain ⟨l1, l2⟩ := mul_bound h10 (show h1 < 2147483648 by omega) h20 (show h2 < 2147483648 by omega)
    have l3 := wrap_u l1 (by omega)
    have l4 : (h1 * h2).tmod P = Sj := (tmod_u l1).trans hsj
    have l7 := wrap_u sj0 (by omega)
    have k8 : ¬ P = 0 := by omega
    have PM : P < 2147483648 := by omega
    have hG : 0 ≤ G := by omega
    have GM : G < 2147483648 := by omega
    have yM : y < 2147483648 := by omega
    have aaM : a < 2147483648 := by omega
    have tjM : t1 < 2147483648 := by omega
    obtain ⟨pz, hpz⟩ : ∃ pz, powm G 0 P = pz := ⟨_, rfl⟩
    have HPZ := Lh hpz
    have HBZ := Lh (show b * pz % P = b by rw [← hpz, powm_zero_one (by omega), Int.mul_one]; exact Int.emod_eq_of_lt bb0 bbP)
    obtain ⟨mm, hmm⟩ : ∃ mm, Cm * r % Q = mm := ⟨_, rfl⟩
    have HMM := Lh hmm
    have HZM := Lh (show (k + mm) % Q = Zm by rw [← hmm]; exact hzm)
    clear hpz hmm
    clear y0_ ha hb hnn hpp ht1 hmi hg1 hg2 hrj hh1 hh2 hsj hrm hsm htt hcm hzm
    have F_g := Lh (show Boxed ((w.alloc (.cells #[.int .u64 P, .int .u64 Q, .int .u64 G] 24)).alloc (.cells #[.int .u64 0, .int .u64 0, .int .u64 0, .int .u64 0, .int .u64 0, .int .u64 0, .int .u64 0, .int .u64 0] 31)) (w.heap.size) P Q G from (Boxed.at _ P Q G _ (w.heap.size) (by simp)).alloc _)
    have F_r := Lh (show Arr .u64 ((w.alloc (.cells #[.int .u64 P, .int .u64 Q, .int .u64 G] 24)).alloc (.cells #[.int .u64 0, .int .u64 0, .int .u64 0, .int .u64 0, .int .u64 0, .int .u64 0, .int .u64 0, .int .u64 0] 31)) (w.heap.size + 1) [0, 0, 0, 0, 0, 0, 0, 0] from Arr.new .u64 _ [0, 0, 0, 0, 0, 0, 0, 0] _ (w.heap.size + 1) (by simp))
    have HBW := Lh (show Below w.heap.size w ((w.alloc (.cells #[.int .u64 P, .int .u64 Q, .int .u64 G] 24)).alloc (.cells #[.int .u64 0, .int .u64 0, .int .u64 0, .int .u64 0, .int .u64 0, .int .u64 0, .int .u64 0, .int .u64 0] 31)) from ((Below.refl _ _).alloc (by simp <;> omega) _).alloc (by simp <;> omega) _)
    go_enter Tryz.func79, Tryz.ntmps79
    obtain ⟨q1_0, q1_1, q1_2, q1_3, q1_4, q1_5, q1_6, q1_7, q1_8, q1_9, q1_10, q1_11, q1_12, q1_13, q1_14, q1_15⟩ := Arr.k8 F_r.o
    obtain ⟨x0a, x0b, x0c, -⟩ := id F_g.o
    go_wp2_with fail
    clear x0a x0b x0c q1_0 q1_1 q1_2 q1_3 q1_4 q1_5 q1_6 q1_7 q1_8 q1_9 q1_10 q1_11 q1_12 q1_13 q1_14 q1_15
    refine (rMake_any _ HH.o y0 yP (by omega) (by omega) r0_ rQ HA.o HB.o).mono ?_
    rintro e w1 ⟨rfl, hb1⟩
    replace F_g := Lh (F_g.o.keep hb1)
    replace F_r := Lh (F_r.o.keep hb1)
    replace HBW := Lh (HBW.o.trans (hb1.mono HBW.o.size))
    clear hb1
    have lt_g0 := F_g.o.lt
    have lt_r0 := F_r.o.lt
    obtain ⟨q1_0, q1_1, q1_2, q1_3, q1_4, q1_5, q1_6, q1_7, q1_8, q1_9, q1_10, q1_11, q1_12, q1_13, q1_14, q1_15⟩ := Arr.k8 F_r.o
    obtain ⟨x0a, x0b, x0c, -⟩ := id F_g.o
    go_wp2_with fail
    clear x0a x0b x0c q1_0 q1_1 q1_2 q1_3 q1_4 q1_5 q1_6 q1_7 q1_8 q1_9 q1_10 q1_11 q1_12 q1_13 q1_14 q1_15
    replace F_g := Lh (F_g.o.alloc (.cells #[.int .u64 a, .int .u64 b] 75))
    replace F_r := Lh (F_r.o.alloc (.cells #[.int .u64 a, .int .u64 b] 75))
    have F_s := Lh (Pair.new w1 a b 75)
    replace HBW := Lh (HBW.o.alloc HBW.o.size (.cells #[.int .u64 a, .int .u64 b] 75))
    replace F_g := Lh (F_g.o.alloc (.cells #[.int .u64 0, .int .u64 0, .int .u64 0, .int .u64 0, .int .u64 0, .int .u64 c, .int .u64 0, .int .u64 z] 31))
    replace F_r := Lh (F_r.o.alloc (.cells #[.int .u64 0, .int .u64 0, .int .u64 0, .int .u64 0, .int .u64 0, .int .u64 c, .int .u64 0, .int .u64 z] 31))
    replace F_s := Lh (F_s.o.alloc (.cells #[.int .u64 0, .int .u64 0, .int .u64 0, .int .u64 0, .int .u64 0, .int .u64 c, .int .u64 0, .int .u64 z] 31))
    have F_p := Lh (show Arr .u64 ((w1.alloc (.cells #[.int .u64 a, .int .u64 b] 75)).alloc (.cells #[.int .u64 0, .int .u64 0, .int .u64 0, .int .u64 0, .int .u64 0, .int .u64 c, .int .u64 0, .int .u64 z] 31)) ((w1.alloc (.cells #[.int .u64 a, .int .u64 b] 75)).heap.size) [0, 0, 0, 0, 0, c, 0, z] from Arr.new .u64 (w1.alloc (.cells #[.int .u64 a, .int .u64 b] 75)) [0, 0, 0, 0, 0, c, 0, z] _ _ rfl)
    replace HBW := Lh (HBW.o.alloc HBW.o.size (.cells #[.int .u64 0, .int .u64 0, .int .u64 0, .int .u64 0, .int .u64 0, .int .u64 c, .int .u64 0, .int .u64 z] 31))
    generalize ((w1.alloc (.cells #[.int .u64 a, .int .u64 b] 75)).alloc (.cells #[.int .u64 0, .int .u64 0, .int .u64 0, .int .u64 0, .int .u64 0, .int .u64 c, .int .u64 0, .int .u64 z] 31)) = wp at F_g F_r F_s F_p HBW ⊢
    try simp only [World.size_alloc] at F_p
    have lt_g : w.heap.size < w1.heap.size + 1 := by omega
    have lt_r : w.heap.size + 1 < w1.heap.size + 1 := by omega
    have lt_s : w1.heap.size < w1.heap.size + 1 := by omega
    generalize hbp : w1.heap.size + 1 = Bp at F_p lt_g lt_r lt_s ⊢
    generalize hbs : w1.heap.size = Bs at F_s lt_s ⊢
    clear hbp hbs lt_g0 lt_r0
    have hle : w.heap.size ≤ Bp := Nat.le_of_lt lt_g
    go_wp2_with fail
    replace F_g := Lh F_g.o.drew
    replace F_r := Lh F_r.o.drew
    replace F_s := Lh F_s.o.drew
    replace F_p := Lh F_p.o.drew
    replace HBW := Lh HBW.o.drew
    have hS := And.intro F_g.o.s (And.intro F_s.o.s F_p.o.s8)
    refine wp_region_stage 19 (fun w' => SBox w' w.heap.size P Q G ∧ SPair w' Bs a b ∧ S8 w' Bp 0 0 0 0 0 c 0 z) (by kernel_rfl) ?_
    refine tkQ 0 (some 37) (.move (.tmp 18)) 3 ?_
    simp only [sY]
    refine tk8 1 (some 38) (.load 24 (.tmp 8)) 24 [5, 11, 12, 13, 16, 18, 19] ?_
    simp only [sY]
    refine tkQ 2 (some 39) (.fieldAddr 24 (.tmp 8) 2) 0 ?_
    simp only [sY]
    refine tk8 3 (some 40) (.load 22 (.tmp 39)) 22 [5, 11, 12, 13, 16, 18, 19] ?_
    simp only [sY]
    refine tkQ 4 (some 41) (.move (.tmp 6)) 22 ?_
    simp only [sY]
    refine tk8 6 (some 43) (.load 24 (.tmp 8)) 24 [12, 13, 16, 18, 19] ?_
    simp only [sY]
    refine tkQ 7 (some 44) (.fieldAddr 75 (.tmp 17) 0) 0 ?_
    simp only [sY]
    refine tk8 8 (some 45) (.load 22 (.tmp 44)) 22 [12, 13, 16, 18, 19] ?_
    simp only [sY]
    refine tk8 9 (some 46) (.load 24 (.tmp 8)) 24 [11, 12, 13, 16, 18, 19] ?_
    simp only [sY]
    refine tkQ 10 (some 47) (.move (.tmp 5)) 22 ?_
    simp only [sY]
    refine tkQ 14 (some 51) (.fieldAddr 24 (.tmp 8) 0) 0 ?_
    simp only [sY]
    refine tk8 15 (some 52) (.load 22 (.tmp 51)) 22 [16, 18, 19] ?_
    simp only [sY]
    refine tkQ 17 (some 54) (.fieldAddr 31 (.tmp 19) 0) 0 ?_
    simp only [sY]
    refine onl (i := 5) (some 42) (.call { callee := .value (.func 106), args := #[.tmp 38, .tmp 40, .tmp 41], argTypes := #[24, 22, 22] }) 22 (fun K hK => ?_)
    unfold bareOp
    go_wp2_with (go_at_call 106; refine (r31Power_any _ hP1 PM hG GM UZ.o HG1.o).mono ?_; rintro e w2 ⟨rfl, hb2⟩)
    replace F_g := Lh (F_g.o.keep hb2)
    replace F_r := Lh (F_r.o.keep hb2)
    replace F_s := Lh (F_s.o.keep hb2)
    replace F_p := Lh (F_p.o.keep hb2)
    replace HBW := Lh (HBW.o.trans (hb2.mono HBW.o.size))
    replace hS := And.intro F_g.o.s (And.intro F_s.o.s F_p.o.s8)
    clear hb2
    refine hK.o _ _ (fun _ => hS) ?_
    clear hK K
    try simp only [sY]
    refine onl (i := 11) (some 48) (.call { callee := .value (.func 107), args := #[.tmp 46, .tmp 47], argTypes := #[24, 22] }) 22 (fun K hK => ?_)
    unfold bareOp
    go_wp2_with (go_at_call 107; refine (rminus_any _ HH.o c0_ cQ HMI.o).mono ?_; rintro e w3 ⟨rfl, hb3⟩)
    replace F_g := Lh (F_g.o.keep hb3)
    replace F_r := Lh (F_r.o.keep hb3)
    replace F_s := Lh (F_s.o.keep hb3)
    replace F_p := Lh (F_p.o.keep hb3)
    replace HBW := Lh (HBW.o.trans (hb3.mono HBW.o.size))
    replace hS := And.intro F_g.o.s (And.intro F_s.o.s F_p.o.s8)
    clear hb3
    refine hK.o _ _ (fun _ => hS) ?_
    clear hK K
    try simp only [sY]
    refine onl (i := 12) (some 49) (.call { callee := .value (.func 106), args := #[.tmp 43, .tmp 45, .tmp 48], argTypes := #[24, 22, 22] }) 22 (fun K hK => ?_)
    unfold bareOp
    go_wp2_with (go_at_call 106; refine (r31Power_any _ hP1 PM aa0 aaM UM.o HG2.o).mono ?_; rintro e w4 ⟨rfl, hb4⟩)
    replace F_g := Lh (F_g.o.keep hb4)
    replace F_r := Lh (F_r.o.keep hb4)
    replace F_s := Lh (F_s.o.keep hb4)
    replace F_p := Lh (F_p.o.keep hb4)
    replace HBW := Lh (HBW.o.trans (hb4.mono HBW.o.size))
    replace hS := And.intro F_g.o.s (And.intro F_s.o.s F_p.o.s8)
    clear hb4
    refine hK.o _ _ (fun _ => hS) ?_
    clear hK K
    try simp only [sY]
    refine tkQ 13 (some 50) (.binOp .mul 22 (.tmp 42) (.tmp 49) 22) 22 ?_
    simp only [sY]
    refine tkQ 16 (some 53) (.binOp .rem 22 (.tmp 50) (.tmp 52) 22) 22 ?_
    simp only [sY]
    refine tkQ 18 (some 55) (.indexAddr 29 (.tmp 54) (.tmp 37)) 0 ?_
    simp only [sY]
    refine onl (i := 19) none (.store 22 (.tmp 55) (.tmp 53)) 0 (fun K hK => ?_)
    unfold bareOp
    obtain ⟨z0_, z1_, z2_, z3_, z4_, z5_, z6_, z7_, z8_, z9_, z10_, z11_, z12_, z13_, z14_, z15_⟩ := Arr.k8 F_p.o
    go_wp2_with fail
    refine hK.o _ _ lt8 ?_
    clear hK K
    try simp only [sY]
    refine wpAnyB_done (by kernel_rfl) ?_ _
    clear hS
    clear z0_ z1_ z2_ z3_ z4_ z5_ z6_ z7_ z8_ z9_ z10_ z11_ z12_ z13_ z14_ z15_
    have hbS := ((Below.refl Bp w4).setCell (p := ⟨Bp, 1, none⟩) (Nat.le_refl _) (.int .u64 Rj))
    replace F_g := Lh (F_g.o.under hbS lt_g)
    replace F_r := Lh (F_r.o.under hbS lt_r)
    replace F_s := Lh (F_s.o.under hbS lt_s)
    replace F_p := Lh (F_p.o.set (ys := [0, Rj, 0, 0, 0, c, 0, z]) 1 (by simp) rfl)
    replace HBW := Lh (HBW.o.trans (hbS.mono hle))
    clear hbS
    generalize (w4.setCell ⟨Bp, 1, none⟩ (.int .u64 Rj)) = wq1 at F_g F_r F_s F_p HBW ⊢
    go_wp2_with fail
    replace F_g := Lh F_g.o.drew
    replace F_r := Lh F_r.o.drew
    replace F_s := Lh F_s.o.drew
    replace F_p := Lh F_p.o.drew
    replace HBW := Lh HBW.o.drew
    have hS := And.intro F_g.o.s (And.intro F_s.o.s F_p.o.s8)
    refine wp_region_stage 20 (fun w' => SBox w' w.heap.size P Q G ∧ SPair w' Bs a b ∧ S8 w' Bp 0 Rj 0 0 0 c 0 z) (by kernel_rfl) ?_
    refine tkQ 0 (some 56) (.move (.tmp 18)) 3 ?_
    simp only [sY]
    refine tk8 1 (some 57) (.load 24 (.tmp 8)) 24 [4, 9, 12, 13, 14, 17, 19, 20] ?_
    simp only [sY]
    refine tkQ 2 (some 58) (.move (.tmp 1)) 22 ?_
    simp only [sY]
    refine tkQ 3 (some 59) (.move (.tmp 6)) 22 ?_
    simp only [sY]
    refine tk8 5 (some 61) (.load 24 (.tmp 8)) 24 [13, 14, 17, 19, 20] ?_
    simp only [sY]
    refine tk8 6 (some 62) (.load 24 (.tmp 8)) 24 [9, 12, 13, 14, 17, 19, 20] ?_
    simp only [sY]
    refine tk8 7 (some 63) (.load 75 (.tmp 17)) 75 [9, 12, 13, 14, 17, 19, 20] ?_
    simp only [sY]
    refine tkQ 8 (some 64) (.move (.tmp 18)) 3 ?_
    simp only [sY]
    refine tk8 10 (some 66) (.load 24 (.tmp 8)) 24 [12, 13, 14, 17, 19, 20] ?_
    simp only [sY]
    refine tkQ 11 (some 67) (.move (.tmp 5)) 22 ?_
    simp only [sY]
    refine tkQ 15 (some 71) (.fieldAddr 24 (.tmp 8) 0) 0 ?_
    simp only [sY]
    refine tk8 16 (some 72) (.load 22 (.tmp 71)) 22 [17, 19, 20] ?_
    simp only [sY]
    refine tkQ 18 (some 74) (.fieldAddr 31 (.tmp 19) 1) 0 ?_
    simp only [sY]
    refine onl (i := 4) (some 60) (.call { callee := .value (.func 106), args := #[.tmp 57, .tmp 58, .tmp 59], argTypes := #[24, 22, 22] }) 22 (fun K hK => ?_)
    unfold bareOp
    go_wp2_with (go_at_call 106; refine (r31Power_any _ hP1 PM y0 yM UZ.o HH1.o).mono ?_; rintro e w5 ⟨rfl, hb5⟩)
    replace F_g := Lh (F_g.o.keep hb5)
    replace F_r := Lh (F_r.o.keep hb5)
    replace F_s := Lh (F_s.o.keep hb5)
    replace F_p := Lh (F_p.o.keep hb5)
    replace HBW := Lh (HBW.o.trans (hb5.mono HBW.o.size))
    replace hS := And.intro F_g.o.s (And.intro F_s.o.s F_p.o.s8)
    clear hb5
    refine hK.o _ _ (fun _ => hS) ?_
    clear hK K
    try simp only [sY]
    refine onl (i := 9) (some 65) (.call { callee := .value (.func 108), args := #[.tmp 62, .tmp 63, .tmp 64], argTypes := #[24, 75, 3] }) 22 (fun K hK => ?_)
    unfold bareOp
    go_wp2_with (go_at_call 108; refine (rWithout1_any _ HH.o bb0 bbP HNN.o HPP.o HT1.o).mono ?_; rintro e w6 ⟨rfl, hb6⟩)
    replace F_g := Lh (F_g.o.keep hb6)
    replace F_r := Lh (F_r.o.keep hb6)
    replace F_s := Lh (F_s.o.keep hb6)
    replace F_p := Lh (F_p.o.keep hb6)
    replace HBW := Lh (HBW.o.trans (hb6.mono HBW.o.size))
    replace hS := And.intro F_g.o.s (And.intro F_s.o.s F_p.o.s8)
    clear hb6
    refine hK.o _ _ (fun _ => hS) ?_
    clear hK K
    try simp only [sY]
    refine onl (i := 12) (some 68) (.call { callee := .value (.func 107), args := #[.tmp 66, .tmp 67], argTypes := #[24, 22] }) 22 (fun K hK => ?_)
    unfold bareOp
    go_wp2_with (go_at_call 107; refine (rminus_any _ HH.o c0_ cQ HMI.o).mono ?_; rintro e w7 ⟨rfl, hb7⟩)
    replace F_g := Lh (F_g.o.keep hb7)
    replace F_r := Lh (F_r.o.keep hb7)
    replace F_s := Lh (F_s.o.keep hb7)
    replace F_p := Lh (F_p.o.keep hb7)
    replace HBW := Lh (HBW.o.trans (hb7.mono HBW.o.size))
    replace hS := And.intro F_g.o.s (And.intro F_s.o.s F_p.o.s8)
    clear hb7
    refine hK.o _ _ (fun _ => hS) ?_
    clear hK K
    try simp only [sY]
    refine onl (i := 13) (some 69) (.call { callee := .value (.func 106), args := #[.tmp 61, .tmp 65, .tmp 68], argTypes := #[24, 22, 22] }) 22 (fun K hK => ?_)
    unfold bareOp
    go_wp2_with (go_at_call 106; refine (r31Power_any _ hP1 PM tj0 tjM UM.o HH2.o).mono ?_; rintro e w8 ⟨rfl, hb8⟩)
    replace F_g := Lh (F_g.o.keep hb8)
    replace F_r := Lh (F_r.o.keep hb8)
    replace F_s := Lh (F_s.o.keep hb8)
    replace F_p := Lh (F_p.o.keep hb8)
    replace HBW := Lh (HBW.o.trans (hb8.mono HBW.o.size))
    replace hS := And.intro F_g.o.s (And.intro F_s.o.s F_p.o.s8)
    clear hb8
    refine hK.o _ _ (fun _ => hS) ?_
    clear hK K
    try simp only [sY]
    refine tkQ 14 (some 70) (.binOp .mul 22 (.tmp 60) (.tmp 69) 22) 22 ?_
    simp only [sY]
    refine tkQ 17 (some 73) (.binOp .rem 22 (.tmp 70) (.tmp 72) 22) 22 ?_
    simp only [sY]
    refine tkQ 19 (some 75) (.indexAddr 29 (.tmp 74) (.tmp 56)) 0 ?_
    simp only [sY]
    refine onl (i := 20) none (.store 22 (.tmp 75) (.tmp 73)) 0 (fun K hK => ?_)
    unfold bareOp
    obtain ⟨z0_, z1_, z2_, z3_, z4_, z5_, z6_, z7_, z8_, z9_, z10_, z11_, z12_, z13_, z14_, z15_⟩ := Arr.k8 F_p.o
    go_wp2_with fail
    refine hK.o _ _ lt8 ?_
    clear hK K
    try simp only [sY]
    refine wpAnyB_done (by kernel_rfl) ?_ _
    clear hS
    clear z0_ z1_ z2_ z3_ z4_ z5_ z6_ z7_ z8_ z9_ z10_ z11_ z12_ z13_ z14_ z15_
    have hbS := ((Below.refl Bp w8).setCell (p := ⟨Bp, 3, none⟩) (Nat.le_refl _) (.int .u64 Sj))
    replace F_g := Lh (F_g.o.under hbS lt_g)
    replace F_r := Lh (F_r.o.under hbS lt_r)
    replace F_s := Lh (F_s.o.under hbS lt_s)
    replace F_p := Lh (F_p.o.set (ys := [0, Rj, 0, Sj, 0, c, 0, z]) 3 (by simp) rfl)
    replace HBW := Lh (HBW.o.trans (hbS.mono hle))
    clear hbS
    generalize (w8.setCell ⟨Bp, 3, none⟩ (.int .u64 Sj)) = wq2 at F_g F_r F_s F_p HBW ⊢
    obtain ⟨q1_0, q1_1, q1_2, q1_3, q1_4, q1_5, q1_6, q1_7, q1_8, q1_9, q1_10, q1_11, q1_12, q1_13, q1_14, q1_15⟩ := Arr.k8 F_r.o
    obtain ⟨q3_0, q3_1, q3_2, q3_3, q3_4, q3_5, q3_6, q3_7, q3_8, q3_9, q3_10, q3_11, q3_12, q3_13, q3_14, q3_15⟩ := Arr.k8 F_p.o
    obtain ⟨x0a, x0b, x0c, -⟩ := id F_g.o
    obtain ⟨x2a, x2b, x2c, x2d, -⟩ := id F_s.o
    go_wp2_with fail
    clear x0a x0b x0c x2a x2b x2c x2d q1_0 q1_1 q1_2 q1_3 q1_4 q1_5 q1_6 q1_7 q1_8 q1_9 q1_10 q1_11 q1_12 q1_13 q1_14 q1_15 q3_0 q3_1 q3_2 q3_3 q3_4 q3_5 q3_6 q3_7 q3_8 q3_9 q3_10 q3_11 q3_12 q3_13 q3_14 q3_15
    refine (r31Power_any _ hP1 PM hG GM UK.o HRM.o).mono ?_
    rintro e w9 ⟨rfl, hb9⟩
    replace F_g := Lh (F_g.o.keep hb9)
    replace F_r := Lh (F_r.o.keep hb9)
    replace F_s := Lh (F_s.o.keep hb9)
    replace F_p := Lh (F_p.o.keep hb9)
    replace HBW := Lh (HBW.o.trans (hb9.mono HBW.o.size))
    clear hb9
    obtain ⟨q1_0, q1_1, q1_2, q1_3, q1_4, q1_5, q1_6, q1_7, q1_8, q1_9, q1_10, q1_11, q1_12, q1_13, q1_14, q1_15⟩ := Arr.k8 F_r.o
    obtain ⟨q3_0, q3_1, q3_2, q3_3, q3_4, q3_5, q3_6, q3_7, q3_8, q3_9, q3_10, q3_11, q3_12, q3_13, q3_14, q3_15⟩ := Arr.k8 F_p.o
    obtain ⟨x0a, x0b, x0c, -⟩ := id F_g.o
    obtain ⟨x2a, x2b, x2c, x2d, -⟩ := id F_s.o
    go_wp2_with fail
    clear x0a x0b x0c x2a x2b x2c x2d q1_0 q1_1 q1_2 q1_3 q1_4 q1_5 q1_6 q1_7 q1_8 q1_9 q1_10 q1_11 q1_12 q1_13 q1_14 q1_15 q3_0 q3_1 q3_2 q3_3 q3_4 q3_5 q3_6 q3_7 q3_8 q3_9 q3_10 q3_11 q3_12 q3_13 q3_14 q3_15
    have hbS := ((Below.refl Bp w9).setCell (p := ⟨Bp, 0, none⟩) (Nat.le_refl _) (.int .u64 Rm))
    replace F_g := Lh (F_g.o.under hbS lt_g)
    replace F_r := Lh (F_r.o.under hbS lt_r)
    replace F_s := Lh (F_s.o.under hbS lt_s)
    replace F_p := Lh (F_p.o.set (ys := [Rm, Rj, 0, Sj, 0, c, 0, z]) 0 (by simp) rfl)
    replace HBW := Lh (HBW.o.trans (hbS.mono hle))
    clear hbS
    generalize (w9.setCell ⟨Bp, 0, none⟩ (.int .u64 Rm)) = wq3 at F_g F_r F_s F_p HBW ⊢
    refine (r31Power_any _ hP1 PM y0 yM UK.o HSM.o).mono ?_
    rintro e w10 ⟨rfl, hb10⟩
    replace F_g := Lh (F_g.o.keep hb10)
    replace F_r := Lh (F_r.o.keep hb10)
    replace F_s := Lh (F_s.o.keep hb10)
    replace F_p := Lh (F_p.o.keep hb10)
    replace HBW := Lh (HBW.o.trans (hb10.mono HBW.o.size))
    clear hb10
    obtain ⟨q1_0, q1_1, q1_2, q1_3, q1_4, q1_5, q1_6, q1_7, q1_8, q1_9, q1_10, q1_11, q1_12, q1_13, q1_14, q1_15⟩ := Arr.k8 F_r.o
    obtain ⟨q3_0, q3_1, q3_2, q3_3, q3_4, q3_5, q3_6, q3_7, q3_8, q3_9, q3_10, q3_11, q3_12, q3_13, q3_14, q3_15⟩ := Arr.k8 F_p.o
    obtain ⟨x0a, x0b, x0c, -⟩ := id F_g.o
    obtain ⟨x2a, x2b, x2c, x2d, -⟩ := id F_s.o
    go_wp2_with fail
    clear x0a x0b x0c x2a x2b x2c x2d q1_0 q1_1 q1_2 q1_3 q1_4 q1_5 q1_6 q1_7 q1_8 q1_9 q1_10 q1_11 q1_12 q1_13 q1_14 q1_15 q3_0 q3_1 q3_2 q3_3 q3_4 q3_5 q3_6 q3_7 q3_8 q3_9 q3_10 q3_11 q3_12 q3_13 q3_14 q3_15
    have hbS := ((Below.refl Bp w10).setCell (p := ⟨Bp, 2, none⟩) (Nat.le_refl _) (.int .u64 Sm))
    replace F_g := Lh (F_g.o.under hbS lt_g)
    replace F_r := Lh (F_r.o.under hbS lt_r)
    replace F_s := Lh (F_s.o.under hbS lt_s)
    replace F_p := Lh (F_p.o.set (ys := [Rm, Rj, Sm, Sj, 0, c, 0, z]) 2 (by simp) rfl)
    replace HBW := Lh (HBW.o.trans (hbS.mono hle))
    clear hbS
    generalize (w10.setCell ⟨Bp, 2, none⟩ (.int .u64 Sm)) = wq4 at F_g F_r F_s F_p HBW ⊢
    try go_wp2_with fail
    replace F_g := Lh F_g.o.drew
    replace F_r := Lh F_r.o.drew
    replace F_s := Lh F_s.o.drew
    replace F_p := Lh F_p.o.drew
    replace HBW := Lh HBW.o.drew
    have hS := And.intro F_g.o.s (And.intro F_s.o.s F_p.o.s8)
    refine wp_region_stage 7 (fun w' => SBox w' w.heap.size P Q G ∧ SPair w' Bs a b ∧ S8 w' Bp Rm Rj Sm Sj 0 c 0 z) (by kernel_rfl) ?_
    refine tk8 0 (some 91) (.load 24 (.tmp 8)) 24 [6, 7] ?_
    simp only [sY]
    refine tkQ 1 (some 92) (.move (.tmp 1)) 22 ?_
    simp only [sY]
    refine tk8 2 (some 93) (.load 75 (.tmp 17)) 75 [4, 6, 7] ?_
    simp only [sY]
    refine tk8 3 (some 94) (.load 31 (.tmp 19)) 31 [4, 6, 7] ?_
    simp only [sY]
    refine tkQ 5 (some 96) (.move (.tmp 7)) 80 ?_
    simp only [sY]
    refine onl (i := 4) (some 95) (.call { callee := .value (.func 110), args := #[.tmp 92, .tmp 93, .tmp 94], argTypes := #[22, 75, 31] }) 34 (fun K hK => ?_)
    unfold bareOp
    go_wp2_with (go_at_call 110; refine (rlist_any _).mono ?_; rintro e w11 ⟨BL, rfl, hms, hb11⟩)
    replace F_g := Lh (F_g.o.keep hb11)
    replace F_r := Lh (F_r.o.keep hb11)
    replace F_s := Lh (F_s.o.keep hb11)
    replace F_p := Lh (F_p.o.keep hb11)
    have F_ms := Lh hms
    replace HBW := Lh (HBW.o.trans (hb11.mono HBW.o.size))
    replace hS := And.intro F_g.o.s (And.intro F_s.o.s F_p.o.s8)
    clear hb11
    refine hK.o _ _ (fun _ => hS) ?_
    clear hK K
    try simp only [sY]
    refine onl (i := 6) (some 97) (.call { callee := .value (.func 109), args := #[.tmp 91, .tmp 95, .tmp 96], argTypes := #[24, 34, 80] }) 22 (fun K hK => ?_)
    unfold bareOp
    go_wp2_with (go_at_call 109; refine (rOf31_any _ (HT.o.keep HBW.o) HH.o F_ms.o HUS.o (by simp) (by simp) (by omega) HTT.o).mono ?_; rintro e w12 ⟨rfl, hb12⟩)
    replace F_g := Lh (F_g.o.keep hb12)
    replace F_r := Lh (F_r.o.keep hb12)
    replace F_s := Lh (F_s.o.keep hb12)
    replace F_p := Lh (F_p.o.keep hb12)
    replace HBW := Lh (HBW.o.trans (hb12.mono HBW.o.size))
    replace hS := And.intro F_g.o.s (And.intro F_s.o.s F_p.o.s8)
    clear hb12
    refine hK.o _ _ (fun _ => hS) ?_
    clear hK K
    try simp only [sY]
    refine onl (i := 7) (some 20) (.assign (.tmp 97)) 22 (fun K hK => ?_)
    unfold bareOp
    go_wp2_with fail
    refine hK.o _ _ lt8 ?_
    clear hK K
    try simp only [sY]
    refine wpAnyB_done (by kernel_rfl) ?_ _
    clear hS
    clear F_ms hms
    obtain ⟨q1_0, q1_1, q1_2, q1_3, q1_4, q1_5, q1_6, q1_7, q1_8, q1_9, q1_10, q1_11, q1_12, q1_13, q1_14, q1_15⟩ := Arr.k8 F_r.o
    obtain ⟨q3_0, q3_1, q3_2, q3_3, q3_4, q3_5, q3_6, q3_7, q3_8, q3_9, q3_10, q3_11, q3_12, q3_13, q3_14, q3_15⟩ := Arr.k8 F_p.o
    obtain ⟨x0a, x0b, x0c, -⟩ := id F_g.o
    obtain ⟨x2a, x2b, x2c, x2d, -⟩ := id F_s.o
    go_wp2_with fail
    clear x0a x0b x0c x2a x2b x2c x2d q1_0 q1_1 q1_2 q1_3 q1_4 q1_5 q1_6 q1_7 q1_8 q1_9 q1_10 q1_11 q1_12 q1_13 q1_14 q1_15 q3_0 q3_1 q3_2 q3_3 q3_4 q3_5 q3_6 q3_7 q3_8 q3_9 q3_10 q3_11 q3_12 q3_13 q3_14 q3_15
    refine (rDiff_gen _ HH.o tot0 totQ c0_ cQ HCM.o).mono ?_
    rintro e w13 ⟨rfl, hb13⟩
    replace F_g := Lh (F_g.o.keep hb13)
    replace F_r := Lh (F_r.o.keep hb13)
    replace F_s := Lh (F_s.o.keep hb13)
    replace F_p := Lh (F_p.o.keep hb13)
    replace HBW := Lh (HBW.o.trans (hb13.mono HBW.o.size))
    clear hb13
    obtain ⟨q1_0, q1_1, q1_2, q1_3, q1_4, q1_5, q1_6, q1_7, q1_8, q1_9, q1_10, q1_11, q1_12, q1_13, q1_14, q1_15⟩ := Arr.k8 F_r.o
    obtain ⟨q3_0, q3_1, q3_2, q3_3, q3_4, q3_5, q3_6, q3_7, q3_8, q3_9, q3_10, q3_11, q3_12, q3_13, q3_14, q3_15⟩ := Arr.k8 F_p.o
    obtain ⟨x0a, x0b, x0c, -⟩ := id F_g.o
    obtain ⟨x2a, x2b, x2c, x2d, -⟩ := id F_s.o
    go_wp2_with fail
    clear x0a x0b x0c x2a x2b x2c x2d q1_0 q1_1 q1_2 q1_3 q1_4 q1_5 q1_6 q1_7 q1_8 q1_9 q1_10 q1_11 q1_12 q1_13 q1_14 q1_15 q3_0 q3_1 q3_2 q3_3 q3_4 q3_5 q3_6 q3_7 q3_8 q3_9 q3_10 q3_11 q3_12 q3_13 q3_14 q3_15
    have hbS := ((Below.refl Bp w13).setCell (p := ⟨Bp, 4, none⟩) (Nat.le_refl _) (.int .u64 Cm))
    replace F_g := Lh (F_g.o.under hbS lt_g)
    replace F_r := Lh (F_r.o.under hbS lt_r)
    replace F_s := Lh (F_s.o.under hbS lt_s)
    replace F_p := Lh (F_p.o.set (ys := [Rm, Rj, Sm, Sj, Cm, c, 0, z]) 4 (by simp) rfl)
    replace HBW := Lh (HBW.o.trans (hbS.mono hle))
    clear hbS
    generalize (w13.setCell ⟨Bp, 4, none⟩ (.int .u64 Cm)) = wq5 at F_g F_r F_s F_p HBW ⊢
    try go_wp2_with fail
    replace F_g := Lh F_g.o.drew
    replace F_r := Lh F_r.o.drew
    replace F_s := Lh F_s.o.drew
    replace F_p := Lh F_p.o.drew
    replace HBW := Lh HBW.o.drew
    have hS := And.intro F_g.o.s (And.intro F_s.o.s F_p.o.s8)
    refine wp_region_stage 11 (fun w' => SBox w' w.heap.size P Q G ∧ SPair w' Bs a b ∧ S8 w' Bp Rm Rj Sm Sj Cm c 0 z) (by kernel_rfl) ?_
    refine tkQ 0 (some 105) (.move (.tmp 2)) 3 ?_
    simp only [sY]
    refine tk8 1 (some 106) (.load 24 (.tmp 8)) 24 [8, 10, 11] ?_
    simp only [sY]
    refine tkQ 2 (some 107) (.move (.tmp 3)) 22 ?_
    simp only [sY]
    refine tkQ 3 (some 108) (.move (.tmp 4)) 22 ?_
    simp only [sY]
    refine tkQ 4 (some 109) (.move (.tmp 2)) 3 ?_
    simp only [sY]
    refine tkQ 5 (some 110) (.fieldAddr 31 (.tmp 19) 2) 0 ?_
    simp only [sY]
    refine tkQ 6 (some 111) (.indexAddr 29 (.tmp 110) (.tmp 109)) 0 ?_
    simp only [sY]
    refine tk8 7 (some 112) (.load 22 (.tmp 111)) 22 [8, 10, 11] ?_
    simp only [sY]
    refine tkQ 9 (some 114) (.fieldAddr 31 (.tmp 19) 3) 0 ?_
    simp only [sY]
    refine onl (i := 8) (some 113) (.call { callee := .value (.func 112), args := #[.tmp 106, .tmp 107, .tmp 108, .tmp 112], argTypes := #[24, 22, 22, 22] }) 22 (fun K hK => ?_)
    unfold bareOp
    go_wp2_with (go_at_call 112; refine (rtold_any _ HH.o r0_ rQ k0_ kQ cm0 cmQ HMM.o HZM.o).mono ?_; rintro e w14 ⟨rfl, hb14⟩)
    replace F_g := Lh (F_g.o.keep hb14)
    replace F_r := Lh (F_r.o.keep hb14)
    replace F_s := Lh (F_s.o.keep hb14)
    replace F_p := Lh (F_p.o.keep hb14)
    replace HBW := Lh (HBW.o.trans (hb14.mono HBW.o.size))
    replace hS := And.intro F_g.o.s (And.intro F_s.o.s F_p.o.s8)
    clear hb14
    refine hK.o _ _ (fun _ => hS) ?_
    clear hK K
    try simp only [sY]
    refine tkQ 10 (some 115) (.indexAddr 29 (.tmp 114) (.tmp 105)) 0 ?_
    simp only [sY]
    refine onl (i := 11) none (.store 22 (.tmp 115) (.tmp 113)) 0 (fun K hK => ?_)
    unfold bareOp
    obtain ⟨z0_, z1_, z2_, z3_, z4_, z5_, z6_, z7_, z8_, z9_, z10_, z11_, z12_, z13_, z14_, z15_⟩ := Arr.k8 F_p.o
    go_wp2_with fail
    refine hK.o _ _ lt8 ?_
    clear hK K
    try simp only [sY]
    refine wpAnyB_done (by kernel_rfl) ?_ _
    clear hS
    clear z0_ z1_ z2_ z3_ z4_ z5_ z6_ z7_ z8_ z9_ z10_ z11_ z12_ z13_ z14_ z15_
    have hbS := ((Below.refl Bp w14).setCell (p := ⟨Bp, 6, none⟩) (Nat.le_refl _) (.int .u64 Zm))
    replace F_g := Lh (F_g.o.under hbS lt_g)
    replace F_r := Lh (F_r.o.under hbS lt_r)
    replace F_s := Lh (F_s.o.under hbS lt_s)
    replace F_p := Lh (F_p.o.set (ys := [Rm, Rj, Sm, Sj, Cm, c, Zm, z]) 6 (by simp) rfl)
    replace HBW := Lh (HBW.o.trans (hbS.mono hle))
    clear hbS
    generalize (w14.setCell ⟨Bp, 6, none⟩ (.int .u64 Zm)) = wq6 at F_g F_r F_s F_p HBW ⊢
    obtain ⟨q1_0, q1_1, q1_2, q1_3, q1_4, q1_5, q1_6, q1_7, q1_8, q1_9, q1_10, q1_11, q1_12, q1_13, q1_14, q1_15⟩ := Arr.k8 F_r.o
    obtain ⟨q3_0, q3_1, q3_2, q3_3, q3_4, q3_5, q3_6, q3_7, q3_8, q3_9, q3_10, q3_11, q3_12, q3_13, q3_14, q3_15⟩ := Arr.k8 F_p.o
    obtain ⟨x0a, x0b, x0c, -⟩ := id F_g.o
    obtain ⟨x2a, x2b, x2c, x2d, -⟩ := id F_s.o
    go_wp2_with fail
    clear x0a x0b x0c x2a x2b x2c x2d q1_0 q1_1 q1_2 q1_3 q1_4 q1_5 q1_6 q1_7 q1_8 q1_9 q1_10 q1_11 q1_12 q1_13 q1_14 q1_15 q3_0 q3_1 q3_2 q3_3 q3_4 q3_5 q3_6 q3_7 q3_8 q3_9 q3_10 q3_11 q3_12 q3_13 q3_14 q3_15
    exact bodyPost_ret (res_bit1 rfl (F_r.o.st8 Rm Rj Sm Sj Cm c Zm z) _ rfl) rfl ⟨rfl, ((((((((HBW.o).setCell (by simp <;> omega) _).setCell (by simp <;> omega) _).setCell (by simp <;> omega) _).setCell (by simp <;> omega) _).setCell (by simp <;> omega) _).setCell (by simp <;> omega) _).setCell (by simp <;> omega) _).setCell (by simp <;> omega) _⟩
  · skip
    obtain ⟨a, b, nn, pp, t1, mi, g1, g2, Rj, h1, h2, Sj, Rm, Sm, tot, Cm, Zm, ha, hb, hnn, hpp, ht1, hmi, hg1, hg2, hrj, hh1, hh2, hsj, hrm, hsm, htt, hcm, hzm, hf⟩ := hZ
    rw [if_neg (by decide)] at hh2 htt hf
    obtain ⟨q1, q2, q3_, q4, q5, q6, q7, q8⟩ := hf
    replace q1 := q1.symm
    subst q1
    replace q2 := q2.symm
    subst q2
    replace q3_ := q3_.symm
    subst q3_
    replace q4 := q4.symm
    subst q4
    replace q5 := q5.symm
    subst q5
    replace q6 := q6.symm
    subst q6
    replace q7 := q7.symm
    subst q7
    replace q8 := q8.symm
    subst q8
    have y0_ := y0
    have aa0 : 0 ≤ a := by rw [← ha]; exact powm_nonneg (by omega)
    have aaP : a < P := by rw [← ha]; exact powm_lt (by omega)
    have bb0 : 0 ≤ b := by rw [← hb]; exact Int.emod_nonneg _ (by omega)
    have bbP : b < P := by rw [← hb]; exact Int.emod_lt_of_pos _ (by omega)
    have t10 : 0 ≤ t1 := by rw [← ht1]; exact Int.emod_nonneg _ (by omega)
    have t1P : t1 < P := by rw [← ht1]; exact Int.emod_lt_of_pos _ (by omega)
    have tj0 : 0 ≤ b := by assumption
    have tjP : b < P := by assumption
    have mi0 : 0 ≤ mi := by rw [← hmi]; exact Int.emod_nonneg _ (by omega)
    have miQ : mi < Q := by rw [← hmi]; exact Int.emod_lt_of_pos _ (by omega)
    have g10 : 0 ≤ g1 := by rw [← hg1]; exact powm_nonneg (by omega)
    have g1P : g1 < P := by rw [← hg1]; exact powm_lt (by omega)
    have g20 : 0 ≤ g2 := by rw [← hg2]; exact powm_nonneg (by omega)
    have g2P : g2 < P := by rw [← hg2]; exact powm_lt (by omega)
    have h10 : 0 ≤ h1 := by rw [← hh1]; exact powm_nonneg (by omega)
    have h1P : h1 < P := by rw [← hh1]; exact powm_lt (by omega)
    have h20 : 0 ≤ h2 := by rw [← hh2]; exact powm_nonneg (by omega)
    have h2P : h2 < P := by rw [← hh2]; exact powm_lt (by omega)
    have rj0 : 0 ≤ Rj := by rw [← hrj]; exact Int.emod_nonneg _ (by omega)
    have rjP : Rj < P := by rw [← hrj]; exact Int.emod_lt_of_pos _ (by omega)
    have sj0 : 0 ≤ Sj := by rw [← hsj]; exact Int.emod_nonneg _ (by omega)
    have sjP : Sj < P := by rw [← hsj]; exact Int.emod_lt_of_pos _ (by omega)
    have rm0 : 0 ≤ Rm := by rw [← hrm]; exact powm_nonneg (by omega)
    have rmP : Rm < P := by rw [← hrm]; exact powm_lt (by omega)
    have sm0 : 0 ≤ Sm := by rw [← hsm]; exact powm_nonneg (by omega)
    have smP : Sm < P := by rw [← hsm]; exact powm_lt (by omega)
    obtain ⟨tot0, totQ⟩ : 0 ≤ tot ∧ tot < Q := by rw [← htt]; exact chV_range (by omega) _ _
    have cm0 : 0 ≤ Cm := by rw [← hcm]; exact Int.emod_nonneg _ (by omega)
    have cmQ : Cm < Q := by rw [← hcm]; exact Int.emod_lt_of_pos _ (by omega)
    have UZ := Lh (U64.of_lt z0_ (by omega))
    have UK := Lh (U64.of_lt k0_ (by omega))
    have UM := Lh (U64.of_lt mi0 (by omega))
    have HUS := Lh (show ∀ x, x ∈ [y, a, b, Rj, Sj, Rm, Sm] → U64 x from fun x hx => by
     simp at hx
     rcases hx with rfl | rfl | rfl | rfl | rfl | rfl | rfl <;> exact U64.of_lt (by assumption) (by omega))
    have HA := Lh ha
    have HB := Lh hb
    have HNN := Lh hnn
    have HPP := Lh hpp
    have HT1 := Lh ht1
    have HMI := Lh hmi
    have HG1 := Lh hg1
    have HG2 := Lh hg2
    have HRJ := Lh hrj
    have HH1 := Lh hh1
    have HH2 := Lh hh2
    have HSJ := Lh hsj
    have HRM := Lh hrm
    have HSM := Lh hsm
    have HTT := Lh htt
    have HCM := Lh hcm
    have HZS := Lh (show RetS (askS P Q G [r, k, Cm] []) ((k + Cm * r % Q) % Q) Zm 0 from .inl ⟨askS_ok HH.o (by simp; omega) (by simp), hzm.symm, rfl⟩)
    obtain ⟨k1, k2⟩ := mul_bound g10 (show g1 < 2147483648 by omega) g20 (show g2 < 2147483648 by omega)
    have k3 := wrap_u k1 (by omega)
    have k4 : (g1 * g2).tmod P = Rj := (tmod_u k1).trans hrj
    have k7 := wrap_u rj0 (by omega)
    obtain ⟨l1, l2⟩ := mul_bound h10 (show h1 < 2147483648 by omega) h20 (show h2 < 2147483648 by omega)
    have l3 := wrap_u l1 (by omega)
    have l4 : (h1 * h2).tmod P = Sj := (tmod_u l1).trans hsj
    have l7 := wrap_u sj0 (by omega)
    have k8 : ¬ P = 0 := by omega
    have PM : P < 2147483648 := by omega
    have hG : 0 ≤ G := by omega
    have GM : G < 2147483648 := by omega
    have yM : y < 2147483648 := by omega
    have aaM : a < 2147483648 := by omega
    have tjM : b < 2147483648 := by omega
    obtain ⟨pz, hpz⟩ : ∃ pz, powm G 0 P = pz := ⟨_, rfl⟩
    have HPZ := Lh hpz
    have HBZ := Lh (show b * pz % P = b by rw [← hpz, powm_zero_one (by omega), Int.mul_one]; exact Int.emod_eq_of_lt bb0 bbP)
    obtain ⟨mm, hmm⟩ : ∃ mm, Cm * r % Q = mm := ⟨_, rfl⟩
    have HMM := Lh hmm
    have HZM := Lh (show (k + mm) % Q = Zm by rw [← hmm]; exact hzm)
    clear hpz hmm
    clear y0_ ha hb hnn hpp ht1 hmi hg1 hg2 hrj hh1 hh2 hsj hrm hsm htt hcm hzm
    have F_g := Lh (show Boxed ((w.alloc (.cells #[.int .u64 P, .int .u64 Q, .int .u64 G] 24)).alloc (.cells #[.int .u64 0, .int .u64 0, .int .u64 0, .int .u64 0, .int .u64 0, .int .u64 0, .int .u64 0, .int .u64 0] 31)) (w.heap.size) P Q G from (Boxed.at _ P Q G _ (w.heap.size) (by simp)).alloc _)
    have F_r := Lh (show Arr .u64 ((w.alloc (.cells #[.int .u64 P, .int .u64 Q, .int .u64 G] 24)).alloc (.cells #[.int .u64 0, .int .u64 0, .int .u64 0, .int .u64 0, .int .u64 0, .int .u64 0, .int .u64 0, .int .u64 0] 31)) (w.heap.size + 1) [0, 0, 0, 0, 0, 0, 0, 0] from Arr.new .u64 _ [0, 0, 0, 0, 0, 0, 0, 0] _ (w.heap.size + 1) (by simp))
    have HBW := Lh (show Below w.heap.size w ((w.alloc (.cells #[.int .u64 P, .int .u64 Q, .int .u64 G] 24)).alloc (.cells #[.int .u64 0, .int .u64 0, .int .u64 0, .int .u64 0, .int .u64 0, .int .u64 0, .int .u64 0, .int .u64 0] 31)) from ((Below.refl _ _).alloc (by simp <;> omega) _).alloc (by simp <;> omega) _)
    go_enter Tryz.func79, Tryz.ntmps79
    obtain ⟨q1_0, q1_1, q1_2, q1_3, q1_4, q1_5, q1_6, q1_7, q1_8, q1_9, q1_10, q1_11, q1_12, q1_13, q1_14, q1_15⟩ := Arr.k8 F_r.o
    obtain ⟨x0a, x0b, x0c, -⟩ := id F_g.o
    go_wp2_with fail
    clear x0a x0b x0c q1_0 q1_1 q1_2 q1_3 q1_4 q1_5 q1_6 q1_7 q1_8 q1_9 q1_10 q1_11 q1_12 q1_13 q1_14 q1_15
    refine (rMake_any _ HH.o y0 yP (by omega) (by omega) r0_ rQ HA.o HB.o).mono ?_
    rintro e w1 ⟨rfl, hb1⟩
    replace F_g := Lh (F_g.o.keep hb1)
    replace F_r := Lh (F_r.o.keep hb1)
    replace HBW := Lh (HBW.o.trans (hb1.mono HBW.o.size))
    clear hb1
    have lt_g0 := F_g.o.lt
    have lt_r0 := F_r.o.lt
    obtain ⟨q1_0, q1_1, q1_2, q1_3, q1_4, q1_5, q1_6, q1_7, q1_8, q1_9, q1_10, q1_11, q1_12, q1_13, q1_14, q1_15⟩ := Arr.k8 F_r.o
    obtain ⟨x0a, x0b, x0c, -⟩ := id F_g.o
    go_wp2_with fail
    clear x0a x0b x0c q1_0 q1_1 q1_2 q1_3 q1_4 q1_5 q1_6 q1_7 q1_8 q1_9 q1_10 q1_11 q1_12 q1_13 q1_14 q1_15
    replace F_g := Lh (F_g.o.alloc (.cells #[.int .u64 a, .int .u64 b] 75))
    replace F_r := Lh (F_r.o.alloc (.cells #[.int .u64 a, .int .u64 b] 75))
    have F_s := Lh (Pair.new w1 a b 75)
    replace HBW := Lh (HBW.o.alloc HBW.o.size (.cells #[.int .u64 a, .int .u64 b] 75))
    replace F_g := Lh (F_g.o.alloc (.cells #[.int .u64 0, .int .u64 0, .int .u64 0, .int .u64 0, .int .u64 c, .int .u64 0, .int .u64 z, .int .u64 0] 31))
    replace F_r := Lh (F_r.o.alloc (.cells #[.int .u64 0, .int .u64 0, .int .u64 0, .int .u64 0, .int .u64 c, .int .u64 0, .int .u64 z, .int .u64 0] 31))
    replace F_s := Lh (F_s.o.alloc (.cells #[.int .u64 0, .int .u64 0, .int .u64 0, .int .u64 0, .int .u64 c, .int .u64 0, .int .u64 z, .int .u64 0] 31))
    have F_p := Lh (show Arr .u64 ((w1.alloc (.cells #[.int .u64 a, .int .u64 b] 75)).alloc (.cells #[.int .u64 0, .int .u64 0, .int .u64 0, .int .u64 0, .int .u64 c, .int .u64 0, .int .u64 z, .int .u64 0] 31)) ((w1.alloc (.cells #[.int .u64 a, .int .u64 b] 75)).heap.size) [0, 0, 0, 0, c, 0, z, 0] from Arr.new .u64 (w1.alloc (.cells #[.int .u64 a, .int .u64 b] 75)) [0, 0, 0, 0, c, 0, z, 0] _ _ rfl)
    replace HBW := Lh (HBW.o.alloc HBW.o.size (.cells #[.int .u64 0, .int .u64 0, .int .u64 0, .int .u64 0, .int .u64 c, .int .u64 0, .int .u64 z, .int .u64 0] 31))
    generalize ((w1.alloc (.cells #[.int .u64 a, .int .u64 b] 75)).alloc (.cells #[.int .u64 0, .int .u64 0, .int .u64 0, .int .u64 0, .int .u64 c, .int .u64 0, .int .u64 z, .int .u64 0] 31)) = wp at F_g F_r F_s F_p HBW ⊢
    try simp only [World.size_alloc] at F_p
    have lt_g : w.heap.size < w1.heap.size + 1 := by omega
    have lt_r : w.heap.size + 1 < w1.heap.size + 1 := by omega
    have lt_s : w1.heap.size < w1.heap.size + 1 := by omega
    generalize hbp : w1.heap.size + 1 = Bp at F_p lt_g lt_r lt_s ⊢
    generalize hbs : w1.heap.size = Bs at F_s lt_s ⊢
    clear hbp hbs lt_g0 lt_r0
    have hle : w.heap.size ≤ Bp := Nat.le_of_lt lt_g
    go_wp2_with fail
    replace F_g := Lh F_g.o.drew
    replace F_r := Lh F_r.o.drew
    replace F_s := Lh F_s.o.drew
    replace F_p := Lh F_p.o.drew
    replace HBW := Lh HBW.o.drew
    have hS := And.intro F_g.o.s (And.intro F_s.o.s F_p.o.s8)
    refine wp_region_stage 19 (fun w' => SBox w' w.heap.size P Q G ∧ SPair w' Bs a b ∧ S8 w' Bp 0 0 0 0 c 0 z 0) (by kernel_rfl) ?_
    refine tkQ 0 (some 37) (.move (.tmp 18)) 3 ?_
    simp only [sY]
    refine tk8 1 (some 38) (.load 24 (.tmp 8)) 24 [5, 11, 12, 13, 16, 18, 19] ?_
    simp only [sY]
    refine tkQ 2 (some 39) (.fieldAddr 24 (.tmp 8) 2) 0 ?_
    simp only [sY]
    refine tk8 3 (some 40) (.load 22 (.tmp 39)) 22 [5, 11, 12, 13, 16, 18, 19] ?_
    simp only [sY]
    refine tkQ 4 (some 41) (.move (.tmp 6)) 22 ?_
    simp only [sY]
    refine tk8 6 (some 43) (.load 24 (.tmp 8)) 24 [12, 13, 16, 18, 19] ?_
    simp only [sY]
    refine tkQ 7 (some 44) (.fieldAddr 75 (.tmp 17) 0) 0 ?_
    simp only [sY]
    refine tk8 8 (some 45) (.load 22 (.tmp 44)) 22 [12, 13, 16, 18, 19] ?_
    simp only [sY]
    refine tk8 9 (some 46) (.load 24 (.tmp 8)) 24 [11, 12, 13, 16, 18, 19] ?_
    simp only [sY]
    refine tkQ 10 (some 47) (.move (.tmp 5)) 22 ?_
    simp only [sY]
    refine tkQ 14 (some 51) (.fieldAddr 24 (.tmp 8) 0) 0 ?_
    simp only [sY]
    refine tk8 15 (some 52) (.load 22 (.tmp 51)) 22 [16, 18, 19] ?_
    simp only [sY]
    refine tkQ 17 (some 54) (.fieldAddr 31 (.tmp 19) 0) 0 ?_
    simp only [sY]
    refine onl (i := 5) (some 42) (.call { callee := .value (.func 106), args := #[.tmp 38, .tmp 40, .tmp 41], argTypes := #[24, 22, 22] }) 22 (fun K hK => ?_)
    unfold bareOp
    go_wp2_with (go_at_call 106; refine (r31Power_any _ hP1 PM hG GM UZ.o HG1.o).mono ?_; rintro e w2 ⟨rfl, hb2⟩)
    replace F_g := Lh (F_g.o.keep hb2)
    replace F_r := Lh (F_r.o.keep hb2)
    replace F_s := Lh (F_s.o.keep hb2)
    replace F_p := Lh (F_p.o.keep hb2)
    replace HBW := Lh (HBW.o.trans (hb2.mono HBW.o.size))
    replace hS := And.intro F_g.o.s (And.intro F_s.o.s F_p.o.s8)
    clear hb2
    refine hK.o _ _ (fun _ => hS) ?_
    clear hK K
    try simp only [sY]
    refine onl (i := 11) (some 48) (.call { callee := .value (.func 107), args := #[.tmp 46, .tmp 47], argTypes := #[24, 22] }) 22 (fun K hK => ?_)
    unfold bareOp
    go_wp2_with (go_at_call 107; refine (rminus_any _ HH.o c0_ cQ HMI.o).mono ?_; rintro e w3 ⟨rfl, hb3⟩)
    replace F_g := Lh (F_g.o.keep hb3)
    replace F_r := Lh (F_r.o.keep hb3)
    replace F_s := Lh (F_s.o.keep hb3)
    replace F_p := Lh (F_p.o.keep hb3)
    replace HBW := Lh (HBW.o.trans (hb3.mono HBW.o.size))
    replace hS := And.intro F_g.o.s (And.intro F_s.o.s F_p.o.s8)
    clear hb3
    refine hK.o _ _ (fun _ => hS) ?_
    clear hK K
    try simp only [sY]
    refine onl (i := 12) (some 49) (.call { callee := .value (.func 106), args := #[.tmp 43, .tmp 45, .tmp 48], argTypes := #[24, 22, 22] }) 22 (fun K hK => ?_)
    unfold bareOp
    go_wp2_with (go_at_call 106; refine (r31Power_any _ hP1 PM aa0 aaM UM.o HG2.o).mono ?_; rintro e w4 ⟨rfl, hb4⟩)
    replace F_g := Lh (F_g.o.keep hb4)
    replace F_r := Lh (F_r.o.keep hb4)
    replace F_s := Lh (F_s.o.keep hb4)
    replace F_p := Lh (F_p.o.keep hb4)
    replace HBW := Lh (HBW.o.trans (hb4.mono HBW.o.size))
    replace hS := And.intro F_g.o.s (And.intro F_s.o.s F_p.o.s8)
    clear hb4
    refine hK.o _ _ (fun _ => hS) ?_
    clear hK K
    try simp only [sY]
    refine tkQ 13 (some 50) (.binOp .mul 22 (.tmp 42) (.tmp 49) 22) 22 ?_
    simp only [sY]
    refine tkQ 16 (some 53) (.binOp .rem 22 (.tmp 50) (.tmp 52) 22) 22 ?_
    simp only [sY]
    refine tkQ 18 (some 55) (.indexAddr 29 (.tmp 54) (.tmp 37)) 0 ?_
    simp only [sY]
    refine onl (i := 19) none (.store 22 (.tmp 55) (.tmp 53)) 0 (fun K hK => ?_)
    unfold bareOp
    obtain ⟨z0_, z1_, z2_, z3_, z4_, z5_, z6_, z7_, z8_, z9_, z10_, z11_, z12_, z13_, z14_, z15_⟩ := Arr.k8 F_p.o
    go_wp2_with fail
    refine hK.o _ _ lt8 ?_
    clear hK K
    try simp only [sY]
    refine wpAnyB_done (by kernel_rfl) ?_ _
    clear hS
    clear z0_ z1_ z2_ z3_ z4_ z5_ z6_ z7_ z8_ z9_ z10_ z11_ z12_ z13_ z14_ z15_
    have hbS := ((Below.refl Bp w4).setCell (p := ⟨Bp, 0, none⟩) (Nat.le_refl _) (.int .u64 Rj))
    replace F_g := Lh (F_g.o.under hbS lt_g)
    replace F_r := Lh (F_r.o.under hbS lt_r)
    replace F_s := Lh (F_s.o.under hbS lt_s)
    replace F_p := Lh (F_p.o.set (ys := [Rj, 0, 0, 0, c, 0, z, 0]) 0 (by simp) rfl)
    replace HBW := Lh (HBW.o.trans (hbS.mono hle))
    clear hbS
    generalize (w4.setCell ⟨Bp, 0, none⟩ (.int .u64 Rj)) = wq1 at F_g F_r F_s F_p HBW ⊢
    go_wp2_with fail
    replace F_g := Lh F_g.o.drew
    replace F_r := Lh F_r.o.drew
    replace F_s := Lh F_s.o.drew
    replace F_p := Lh F_p.o.drew
    replace HBW := Lh HBW.o.drew
    have hS := And.intro F_g.o.s (And.intro F_s.o.s F_p.o.s8)
    refine wp_region_stage 20 (fun w' => SBox w' w.heap.size P Q G ∧ SPair w' Bs a b ∧ S8 w' Bp Rj 0 0 0 c 0 z 0) (by kernel_rfl) ?_
    refine tkQ 0 (some 56) (.move (.tmp 18)) 3 ?_
    simp only [sY]
    refine tk8 1 (some 57) (.load 24 (.tmp 8)) 24 [4, 9, 12, 13, 14, 17, 19, 20] ?_
    simp only [sY]
    refine tkQ 2 (some 58) (.move (.tmp 1)) 22 ?_
    simp only [sY]
    refine tkQ 3 (some 59) (.move (.tmp 6)) 22 ?_
    simp only [sY]
    refine tk8 5 (some 61) (.load 24 (.tmp 8)) 24 [13, 14, 17, 19, 20] ?_
    simp only [sY]
    refine tk8 6 (some 62) (.load 24 (.tmp 8)) 24 [9, 12, 13, 14, 17, 19, 20] ?_
    simp only [sY]
    refine tk8 7 (some 63) (.load 75 (.tmp 17)) 75 [9, 12, 13, 14, 17, 19, 20] ?_
    simp only [sY]
    refine tkQ 8 (some 64) (.move (.tmp 18)) 3 ?_
    simp only [sY]
    refine tk8 10 (some 66) (.load 24 (.tmp 8)) 24 [12, 13, 14, 17, 19, 20] ?_
    simp only [sY]
    refine tkQ 11 (some 67) (.move (.tmp 5)) 22 ?_
    simp only [sY]
    refine tkQ 15 (some 71) (.fieldAddr 24 (.tmp 8) 0) 0 ?_
    simp only [sY]
    refine tk8 16 (some 72) (.load 22 (.tmp 71)) 22 [17, 19, 20] ?_
    simp only [sY]
    refine tkQ 18 (some 74) (.fieldAddr 31 (.tmp 19) 1) 0 ?_
    simp only [sY]
    refine onl (i := 4) (some 60) (.call { callee := .value (.func 106), args := #[.tmp 57, .tmp 58, .tmp 59], argTypes := #[24, 22, 22] }) 22 (fun K hK => ?_)
    unfold bareOp
    go_wp2_with (go_at_call 106; refine (r31Power_any _ hP1 PM y0 yM UZ.o HH1.o).mono ?_; rintro e w5 ⟨rfl, hb5⟩)
    replace F_g := Lh (F_g.o.keep hb5)
    replace F_r := Lh (F_r.o.keep hb5)
    replace F_s := Lh (F_s.o.keep hb5)
    replace F_p := Lh (F_p.o.keep hb5)
    replace HBW := Lh (HBW.o.trans (hb5.mono HBW.o.size))
    replace hS := And.intro F_g.o.s (And.intro F_s.o.s F_p.o.s8)
    clear hb5
    refine hK.o _ _ (fun _ => hS) ?_
    clear hK K
    try simp only [sY]
    refine onl (i := 9) (some 65) (.call { callee := .value (.func 108), args := #[.tmp 62, .tmp 63, .tmp 64], argTypes := #[24, 75, 3] }) 22 (fun K hK => ?_)
    unfold bareOp
    go_wp2_with (go_at_call 108; refine (rWithout0_any _ HH.o bb0 bbP (show (0 - 0) % Q = 0 by simp) HPZ.o HBZ.o).mono ?_; rintro e w6 ⟨rfl, hb6⟩)
    replace F_g := Lh (F_g.o.keep hb6)
    replace F_r := Lh (F_r.o.keep hb6)
    replace F_s := Lh (F_s.o.keep hb6)
    replace F_p := Lh (F_p.o.keep hb6)
    replace HBW := Lh (HBW.o.trans (hb6.mono HBW.o.size))
    replace hS := And.intro F_g.o.s (And.intro F_s.o.s F_p.o.s8)
    clear hb6
    refine hK.o _ _ (fun _ => hS) ?_
    clear hK K
    try simp only [sY]
    refine onl (i := 12) (some 68) (.call { callee := .value (.func 107), args := #[.tmp 66, .tmp 67], argTypes := #[24, 22] }) 22 (fun K hK => ?_)
    unfold bareOp
    go_wp2_with (go_at_call 107; refine (rminus_any _ HH.o c0_ cQ HMI.o).mono ?_; rintro e w7 ⟨rfl, hb7⟩)
    replace F_g := Lh (F_g.o.keep hb7)
    replace F_r := Lh (F_r.o.keep hb7)
    replace F_s := Lh (F_s.o.keep hb7)
    replace F_p := Lh (F_p.o.keep hb7)
    replace HBW := Lh (HBW.o.trans (hb7.mono HBW.o.size))
    replace hS := And.intro F_g.o.s (And.intro F_s.o.s F_p.o.s8)
    clear hb7
    refine hK.o _ _ (fun _ => hS) ?_
    clear hK K
    try simp only [sY]
    refine onl (i := 13) (some 69) (.call { callee := .value (.func 106), args := #[.tmp 61, .tmp 65, .tmp 68], argTypes := #[24, 22, 22] }) 22 (fun K hK => ?_)
    unfold bareOp
    go_wp2_with (go_at_call 106; refine (r31Power_any _ hP1 PM tj0 tjM UM.o HH2.o).mono ?_; rintro e w8 ⟨rfl, hb8⟩)
    replace F_g := Lh (F_g.o.keep hb8)
    replace F_r := Lh (F_r.o.keep hb8)
    replace F_s := Lh (F_s.o.keep hb8)
    replace F_p := Lh (F_p.o.keep hb8)
    replace HBW := Lh (HBW.o.trans (hb8.mono HBW.o.size))
    replace hS := And.intro F_g.o.s (And.intro F_s.o.s F_p.o.s8)
    clear hb8
    refine hK.o _ _ (fun _ => hS) ?_
    clear hK K
    try simp only [sY]
    refine tkQ 14 (some 70) (.binOp .mul 22 (.tmp 60) (.tmp 69) 22) 22 ?_
    simp only [sY]
    refine tkQ 17 (some 73) (.binOp .rem 22 (.tmp 70) (.tmp 72) 22) 22 ?_
    simp only [sY]
    refine tkQ 19 (some 75) (.indexAddr 29 (.tmp 74) (.tmp 56)) 0 ?_
    simp only [sY]
    refine onl (i := 20) none (.store 22 (.tmp 75) (.tmp 73)) 0 (fun K hK => ?_)
    unfold bareOp
    obtain ⟨z0_, z1_, z2_, z3_, z4_, z5_, z6_, z7_, z8_, z9_, z10_, z11_, z12_, z13_, z14_, z15_⟩ := Arr.k8 F_p.o
    go_wp2_with fail
    refine hK.o _ _ lt8 ?_
    clear hK K
    try simp only [sY]
    refine wpAnyB_done (by kernel_rfl) ?_ _
    clear hS
    clear z0_ z1_ z2_ z3_ z4_ z5_ z6_ z7_ z8_ z9_ z10_ z11_ z12_ z13_ z14_ z15_
    have hbS := ((Below.refl Bp w8).setCell (p := ⟨Bp, 2, none⟩) (Nat.le_refl _) (.int .u64 Sj))
    replace F_g := Lh (F_g.o.under hbS lt_g)
    replace F_r := Lh (F_r.o.under hbS lt_r)
    replace F_s := Lh (F_s.o.under hbS lt_s)
    replace F_p := Lh (F_p.o.set (ys := [Rj, 0, Sj, 0, c, 0, z, 0]) 2 (by simp) rfl)
    replace HBW := Lh (HBW.o.trans (hbS.mono hle))
    clear hbS
    generalize (w8.setCell ⟨Bp, 2, none⟩ (.int .u64 Sj)) = wq2 at F_g F_r F_s F_p HBW ⊢
    obtain ⟨q1_0, q1_1, q1_2, q1_3, q1_4, q1_5, q1_6, q1_7, q1_8, q1_9, q1_10, q1_11, q1_12, q1_13, q1_14, q1_15⟩ := Arr.k8 F_r.o
    obtain ⟨q3_0, q3_1, q3_2, q3_3, q3_4, q3_5, q3_6, q3_7, q3_8, q3_9, q3_10, q3_11, q3_12, q3_13, q3_14, q3_15⟩ := Arr.k8 F_p.o
    obtain ⟨x0a, x0b, x0c, -⟩ := id F_g.o
    obtain ⟨x2a, x2b, x2c, x2d, -⟩ := id F_s.o
    go_wp2_with fail
    clear x0a x0b x0c x2a x2b x2c x2d q1_0 q1_1 q1_2 q1_3 q1_4 q1_5 q1_6 q1_7 q1_8 q1_9 q1_10 q1_11 q1_12 q1_13 q1_14 q1_15 q3_0 q3_1 q3_2 q3_3 q3_4 q3_5 q3_6 q3_7 q3_8 q3_9 q3_10 q3_11 q3_12 q3_13 q3_14 q3_15
    refine (r31Power_any _ hP1 PM hG GM UK.o HRM.o).mono ?_
    rintro e w9 ⟨rfl, hb9⟩
    replace F_g := Lh (F_g.o.keep hb9)
    replace F_r := Lh (F_r.o.keep hb9)
    replace F_s := Lh (F_s.o.keep hb9)
    replace F_p := Lh (F_p.o.keep hb9)
    replace HBW := Lh (HBW.o.trans (hb9.mono HBW.o.size))
    clear hb9
    obtain ⟨q1_0, q1_1, q1_2, q1_3, q1_4, q1_5, q1_6, q1_7, q1_8, q1_9, q1_10, q1_11, q1_12, q1_13, q1_14, q1_15⟩ := Arr.k8 F_r.o
    obtain ⟨q3_0, q3_1, q3_2, q3_3, q3_4, q3_5, q3_6, q3_7, q3_8, q3_9, q3_10, q3_11, q3_12, q3_13, q3_14, q3_15⟩ := Arr.k8 F_p.o
    obtain ⟨x0a, x0b, x0c, -⟩ := id F_g.o
    obtain ⟨x2a, x2b, x2c, x2d, -⟩ := id F_s.o
    go_wp2_with fail
    clear x0a x0b x0c x2a x2b x2c x2d q1_0 q1_1 q1_2 q1_3 q1_4 q1_5 q1_6 q1_7 q1_8 q1_9 q1_10 q1_11 q1_12 q1_13 q1_14 q1_15 q3_0 q3_1 q3_2 q3_3 q3_4 q3_5 q3_6 q3_7 q3_8 q3_9 q3_10 q3_11 q3_12 q3_13 q3_14 q3_15
    have hbS := ((Below.refl Bp w9).setCell (p := ⟨Bp, 1, none⟩) (Nat.le_refl _) (.int .u64 Rm))
    replace F_g := Lh (F_g.o.under hbS lt_g)
    replace F_r := Lh (F_r.o.under hbS lt_r)
    replace F_s := Lh (F_s.o.under hbS lt_s)
    replace F_p := Lh (F_p.o.set (ys := [Rj, Rm, Sj, 0, c, 0, z, 0]) 1 (by simp) rfl)
    replace HBW := Lh (HBW.o.trans (hbS.mono hle))
    clear hbS
    generalize (w9.setCell ⟨Bp, 1, none⟩ (.int .u64 Rm)) = wq3 at F_g F_r F_s F_p HBW ⊢
    refine (r31Power_any _ hP1 PM y0 yM UK.o HSM.o).mono ?_
    rintro e w10 ⟨rfl, hb10⟩
    replace F_g := Lh (F_g.o.keep hb10)
    replace F_r := Lh (F_r.o.keep hb10)
    replace F_s := Lh (F_s.o.keep hb10)
    replace F_p := Lh (F_p.o.keep hb10)
    replace HBW := Lh (HBW.o.trans (hb10.mono HBW.o.size))
    clear hb10
    obtain ⟨q1_0, q1_1, q1_2, q1_3, q1_4, q1_5, q1_6, q1_7, q1_8, q1_9, q1_10, q1_11, q1_12, q1_13, q1_14, q1_15⟩ := Arr.k8 F_r.o
    obtain ⟨q3_0, q3_1, q3_2, q3_3, q3_4, q3_5, q3_6, q3_7, q3_8, q3_9, q3_10, q3_11, q3_12, q3_13, q3_14, q3_15⟩ := Arr.k8 F_p.o
    obtain ⟨x0a, x0b, x0c, -⟩ := id F_g.o
    obtain ⟨x2a, x2b, x2c, x2d, -⟩ := id F_s.o
    go_wp2_with fail
    clear x0a x0b x0c x2a x2b x2c x2d q1_0 q1_1 q1_2 q1_3 q1_4 q1_5 q1_6 q1_7 q1_8 q1_9 q1_10 q1_11 q1_12 q1_13 q1_14 q1_15 q3_0 q3_1 q3_2 q3_3 q3_4 q3_5 q3_6 q3_7 q3_8 q3_9 q3_10 q3_11 q3_12 q3_13 q3_14 q3_15
    have hbS := ((Below.refl Bp w10).setCell (p := ⟨Bp, 3, none⟩) (Nat.le_refl _) (.int .u64 Sm))
    replace F_g := Lh (F_g.o.under hbS lt_g)
    replace F_r := Lh (F_r.o.under hbS lt_r)
    replace F_s := Lh (F_s.o.under hbS lt_s)
    replace F_p := Lh (F_p.o.set (ys := [Rj, Rm, Sj, Sm, c, 0, z, 0]) 3 (by simp) rfl)
    replace HBW := Lh (HBW.o.trans (hbS.mono hle))
    clear hbS
    generalize (w10.setCell ⟨Bp, 3, none⟩ (.int .u64 Sm)) = wq4 at F_g F_r F_s F_p HBW ⊢
    try go_wp2_with fail
    replace F_g := Lh F_g.o.drew
    replace F_r := Lh F_r.o.drew
    replace F_s := Lh F_s.o.drew
    replace F_p := Lh F_p.o.drew
    replace HBW := Lh HBW.o.drew
    have hS := And.intro F_g.o.s (And.intro F_s.o.s F_p.o.s8)
    refine wp_region_stage 7 (fun w' => SBox w' w.heap.size P Q G ∧ SPair w' Bs a b ∧ S8 w' Bp Rj Rm Sj Sm c 0 z 0) (by kernel_rfl) ?_
    refine tk8 0 (some 91) (.load 24 (.tmp 8)) 24 [6, 7] ?_
    simp only [sY]
    refine tkQ 1 (some 92) (.move (.tmp 1)) 22 ?_
    simp only [sY]
    refine tk8 2 (some 93) (.load 75 (.tmp 17)) 75 [4, 6, 7] ?_
    simp only [sY]
    refine tk8 3 (some 94) (.load 31 (.tmp 19)) 31 [4, 6, 7] ?_
    simp only [sY]
    refine tkQ 5 (some 96) (.move (.tmp 7)) 80 ?_
    simp only [sY]
    refine onl (i := 4) (some 95) (.call { callee := .value (.func 110), args := #[.tmp 92, .tmp 93, .tmp 94], argTypes := #[22, 75, 31] }) 34 (fun K hK => ?_)
    unfold bareOp
    go_wp2_with (go_at_call 110; refine (rlist_any _).mono ?_; rintro e w11 ⟨BL, rfl, hms, hb11⟩)
    replace F_g := Lh (F_g.o.keep hb11)
    replace F_r := Lh (F_r.o.keep hb11)
    replace F_s := Lh (F_s.o.keep hb11)
    replace F_p := Lh (F_p.o.keep hb11)
    have F_ms := Lh hms
    replace HBW := Lh (HBW.o.trans (hb11.mono HBW.o.size))
    replace hS := And.intro F_g.o.s (And.intro F_s.o.s F_p.o.s8)
    clear hb11
    refine hK.o _ _ (fun _ => hS) ?_
    clear hK K
    try simp only [sY]
    refine onl (i := 6) (some 97) (.call { callee := .value (.func 109), args := #[.tmp 91, .tmp 95, .tmp 96], argTypes := #[24, 34, 80] }) 22 (fun K hK => ?_)
    unfold bareOp
    go_wp2_with (go_at_call 109; refine (rOf31_any _ (HT.o.keep HBW.o) HH.o F_ms.o HUS.o (by simp) (by simp) (by omega) HTT.o).mono ?_; rintro e w12 ⟨rfl, hb12⟩)
    replace F_g := Lh (F_g.o.keep hb12)
    replace F_r := Lh (F_r.o.keep hb12)
    replace F_s := Lh (F_s.o.keep hb12)
    replace F_p := Lh (F_p.o.keep hb12)
    replace HBW := Lh (HBW.o.trans (hb12.mono HBW.o.size))
    replace hS := And.intro F_g.o.s (And.intro F_s.o.s F_p.o.s8)
    clear hb12
    refine hK.o _ _ (fun _ => hS) ?_
    clear hK K
    try simp only [sY]
    refine onl (i := 7) (some 20) (.assign (.tmp 97)) 22 (fun K hK => ?_)
    unfold bareOp
    go_wp2_with fail
    refine hK.o _ _ lt8 ?_
    clear hK K
    try simp only [sY]
    refine wpAnyB_done (by kernel_rfl) ?_ _
    clear hS
    clear F_ms hms
    obtain ⟨q1_0, q1_1, q1_2, q1_3, q1_4, q1_5, q1_6, q1_7, q1_8, q1_9, q1_10, q1_11, q1_12, q1_13, q1_14, q1_15⟩ := Arr.k8 F_r.o
    obtain ⟨q3_0, q3_1, q3_2, q3_3, q3_4, q3_5, q3_6, q3_7, q3_8, q3_9, q3_10, q3_11, q3_12, q3_13, q3_14, q3_15⟩ := Arr.k8 F_p.o
    obtain ⟨x0a, x0b, x0c, -⟩ := id F_g.o
    obtain ⟨x2a, x2b, x2c, x2d, -⟩ := id F_s.o
    go_wp2_with fail
    clear x0a x0b x0c x2a x2b x2c x2d q1_0 q1_1 q1_2 q1_3 q1_4 q1_5 q1_6 q1_7 q1_8 q1_9 q1_10 q1_11 q1_12 q1_13 q1_14 q1_15 q3_0 q3_1 q3_2 q3_3 q3_4 q3_5 q3_6 q3_7 q3_8 q3_9 q3_10 q3_11 q3_12 q3_13 q3_14 q3_15
    refine (rDiff_gen _ HH.o tot0 totQ c0_ cQ HCM.o).mono ?_
    rintro e w13 ⟨rfl, hb13⟩
    replace F_g := Lh (F_g.o.keep hb13)
    replace F_r := Lh (F_r.o.keep hb13)
    replace F_s := Lh (F_s.o.keep hb13)
    replace F_p := Lh (F_p.o.keep hb13)
    replace HBW := Lh (HBW.o.trans (hb13.mono HBW.o.size))
    clear hb13
    obtain ⟨q1_0, q1_1, q1_2, q1_3, q1_4, q1_5, q1_6, q1_7, q1_8, q1_9, q1_10, q1_11, q1_12, q1_13, q1_14, q1_15⟩ := Arr.k8 F_r.o
    obtain ⟨q3_0, q3_1, q3_2, q3_3, q3_4, q3_5, q3_6, q3_7, q3_8, q3_9, q3_10, q3_11, q3_12, q3_13, q3_14, q3_15⟩ := Arr.k8 F_p.o
    obtain ⟨x0a, x0b, x0c, -⟩ := id F_g.o
    obtain ⟨x2a, x2b, x2c, x2d, -⟩ := id F_s.o
    go_wp2_with fail
    clear x0a x0b x0c x2a x2b x2c x2d q1_0 q1_1 q1_2 q1_3 q1_4 q1_5 q1_6 q1_7 q1_8 q1_9 q1_10 q1_11 q1_12 q1_13 q1_14 q1_15 q3_0 q3_1 q3_2 q3_3 q3_4 q3_5 q3_6 q3_7 q3_8 q3_9 q3_10 q3_11 q3_12 q3_13 q3_14 q3_15
    have hbS := ((Below.refl Bp w13).setCell (p := ⟨Bp, 5, none⟩) (Nat.le_refl _) (.int .u64 Cm))
    replace F_g := Lh (F_g.o.under hbS lt_g)
    replace F_r := Lh (F_r.o.under hbS lt_r)
    replace F_s := Lh (F_s.o.under hbS lt_s)
    replace F_p := Lh (F_p.o.set (ys := [Rj, Rm, Sj, Sm, c, Cm, z, 0]) 5 (by simp) rfl)
    replace HBW := Lh (HBW.o.trans (hbS.mono hle))
    clear hbS
    generalize (w13.setCell ⟨Bp, 5, none⟩ (.int .u64 Cm)) = wq5 at F_g F_r F_s F_p HBW ⊢
    try go_wp2_with fail
    replace F_g := Lh F_g.o.drew
    replace F_r := Lh F_r.o.drew
    replace F_s := Lh F_s.o.drew
    replace F_p := Lh F_p.o.drew
    replace HBW := Lh HBW.o.drew
    have hS := And.intro F_g.o.s (And.intro F_s.o.s F_p.o.s8)
    refine wp_region_stage 11 (fun w' => SBox w' w.heap.size P Q G ∧ SPair w' Bs a b ∧ S8 w' Bp Rj Rm Sj Sm c Cm z 0) (by kernel_rfl) ?_
    refine tkQ 0 (some 105) (.move (.tmp 2)) 3 ?_
    simp only [sY]
    refine tk8 1 (some 106) (.load 24 (.tmp 8)) 24 [8, 10, 11] ?_
    simp only [sY]
    refine tkQ 2 (some 107) (.move (.tmp 3)) 22 ?_
    simp only [sY]
    refine tkQ 3 (some 108) (.move (.tmp 4)) 22 ?_
    simp only [sY]
    refine tkQ 4 (some 109) (.move (.tmp 2)) 3 ?_
    simp only [sY]
    refine tkQ 5 (some 110) (.fieldAddr 31 (.tmp 19) 2) 0 ?_
    simp only [sY]
    refine tkQ 6 (some 111) (.indexAddr 29 (.tmp 110) (.tmp 109)) 0 ?_
    simp only [sY]
    refine tk8 7 (some 112) (.load 22 (.tmp 111)) 22 [8, 10, 11] ?_
    simp only [sY]
    refine tkQ 9 (some 114) (.fieldAddr 31 (.tmp 19) 3) 0 ?_
    simp only [sY]
    refine onl (i := 8) (some 113) (.call { callee := .value (.func 112), args := #[.tmp 106, .tmp 107, .tmp 108, .tmp 112], argTypes := #[24, 22, 22, 22] }) 22 (fun K hK => ?_)
    unfold bareOp
    go_wp2_with (go_at_call 112; refine (rtold_any _ HH.o r0_ rQ k0_ kQ cm0 cmQ HMM.o HZM.o).mono ?_; rintro e w14 ⟨rfl, hb14⟩)
    replace F_g := Lh (F_g.o.keep hb14)
    replace F_r := Lh (F_r.o.keep hb14)
    replace F_s := Lh (F_s.o.keep hb14)
    replace F_p := Lh (F_p.o.keep hb14)
    replace HBW := Lh (HBW.o.trans (hb14.mono HBW.o.size))
    replace hS := And.intro F_g.o.s (And.intro F_s.o.s F_p.o.s8)
    clear hb14
    refine hK.o _ _ (fun _ => hS) ?_
    clear hK K
    try simp only [sY]
    refine tkQ 10 (some 115) (.indexAddr 29 (.tmp 114) (.tmp 105)) 0 ?_
    simp only [sY]
    refine onl (i := 11) none (.store 22 (.tmp 115) (.tmp 113)) 0 (fun K hK => ?_)
    unfold bareOp
    obtain ⟨z0_, z1_, z2_, z3_, z4_, z5_, z6_, z7_, z8_, z9_, z10_, z11_, z12_, z13_, z14_, z15_⟩ := Arr.k8 F_p.o
    go_wp2_with fail
    refine hK.o _ _ lt8 ?_
    clear hK K
    try simp only [sY]
    refine wpAnyB_done (by kernel_rfl) ?_ _
    clear hS
    clear z0_ z1_ z2_ z3_ z4_ z5_ z6_ z7_ z8_ z9_ z10_ z11_ z12_ z13_ z14_ z15_
    have hbS := ((Below.refl Bp w14).setCell (p := ⟨Bp, 7, none⟩) (Nat.le_refl _) (.int .u64 Zm))
    replace F_g := Lh (F_g.o.under hbS lt_g)
    replace F_r := Lh (F_r.o.under hbS lt_r)
    replace F_s := Lh (F_s.o.under hbS lt_s)
    replace F_p := Lh (F_p.o.set (ys := [Rj, Rm, Sj, Sm, c, Cm, z, Zm]) 7 (by simp) rfl)
    replace HBW := Lh (HBW.o.trans (hbS.mono hle))
    clear hbS
    generalize (w14.setCell ⟨Bp, 7, none⟩ (.int .u64 Zm)) = wq6 at F_g F_r F_s F_p HBW ⊢
    obtain ⟨q1_0, q1_1, q1_2, q1_3, q1_4, q1_5, q1_6, q1_7, q1_8, q1_9, q1_10, q1_11, q1_12, q1_13, q1_14, q1_15⟩ := Arr.k8 F_r.o
    obtain ⟨q3_0, q3_1, q3_2, q3_3, q3_4, q3_5, q3_6, q3_7, q3_8, q3_9, q3_10, q3_11, q3_12, q3_13, q3_14, q3_15⟩ := Arr.k8 F_p.o
    obtain ⟨x0a, x0b, x0c, -⟩ := id F_g.o
    obtain ⟨x2a, x2b, x2c, x2d, -⟩ := id F_s.o
    go_wp2_with fail
    clear x0a x0b x0c x2a x2b x2c x2d q1_0 q1_1 q1_2 q1_3 q1_4 q1_5 q1_6 q1_7 q1_8 q1_9 q1_10 q1_11 q1_12 q1_13 q1_14 q1_15 q3_0 q3_1 q3_2 q3_3 q3_4 q3_5 q3_6 q3_7 q3_8 q3_9 q3_10 q3_11 q3_12 q3_13 q3_14 q3_15
    exact bodyPost_ret (res_bit1 rfl (F_r.o.st8 Rj Rm Sj Sm c Cm z Zm) _ rfl) rfl ⟨rfl, ((((((((HBW.o).setCell (by simp <;> omega) _).setCell (by simp <;> omega) _).setCell (by simp <;> omega) _).setCell (by simp <;> omega) _).setCell (by simp <;> omega) _).setCell (by simp <;> omega) _).setCell (by simp <;> omega) _).setCell (by simp <;> omega) _⟩
end Go.Proofs.YtlbldpkgnonbpaaGreatDoor
