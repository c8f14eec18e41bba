/- proof.EqualProve, EqualVerify. -/
import Derived.Test.YtkjkdfhjfnoalaaGreatDoorTqI
import Derived.Test.YtkjkdfhjfnoalaaGreatDoorTqC
import Derived.Deep.Cut
set_option linter.unusedSimpArgs false
set_option linter.unusedVariables false
set_option maxRecDepth 100000
namespace Go.Proofs.YtkjkdfhjfnoalaaGreatDoor
open Go Go.RowKit Num Sha
set_option maxHeartbeats 4000000 in
theorem peqProve_any {P Q G a x k R S Z c : Int} {tx : Option Addr} {n cp : Nat} {T : List Int} (w : World) (hT : Txt w tx n T) (hP : 0 ≤ P) (hQ : 0 ≤ Q) (hG : 0 ≤ G) (a0 : 0 ≤ a) (x0 : 0 ≤ x) (k0 : 0 ≤ k) (hn : n ≤ 8100) (h : RetE (lgS (askS P Q G [x, k] [a]) n) (powm G k P) (powm a k P) (eqZ P Q G a x k T) R S Z c) :
    Calls Tryz.prog 17 #[.agg #[.int .u64 P, .int .u64 Q, .int .u64 G], .int .u64 a, .int .u64 x, .int .u64 k, .slice tx n cp] w fun e w' => e = .returned (.tuple #[.agg #[.int .u64 R, .int .u64 S, .int .u64 Z], .int .i64 c]) ∧ Below w.heap.size w w' := by
  have HT := Lh hT
  clear hT
  rcases h with ⟨h, hR, hS, hZ, rfl⟩ | ⟨h, rfl, rfl, rfl, hc⟩
  · obtain ⟨h, hn8⟩ := lgS_zero h
    obtain ⟨hH, he, hnn⟩ := askS_zero h
    have xQ := he x (by simp)
    have kQ := he k (by simp)
    have aP := hnn a (by simp)
    have HR := Lh h
    have HLG := Lh (show lgS 0 n = 0 from lgS_ok rfl hn8)
    clear h he hnn
    obtain ⟨p5, p3, hQ', pq, g2, gP⟩ := id hH
    have hP1 : 1 ≤ P := by omega
    have hGM : G < 2147483648 := by omega
    have q3 : Q < 1073741824 := by omega
    have q2 : 2 ≤ Q := by omega
    have HH := Lh hH
    clear hH pq
    have y0_ := 0
    obtain ⟨y, hy⟩ : ∃ y, powm G x P = y := ⟨_, rfl⟩
    obtain ⟨d, hd_⟩ : ∃ d, powm a x P = d := ⟨_, rfl⟩
    have hRk : powm G k P = R := hR.symm
    have hSk : powm a k P = S := hS.symm
    obtain ⟨h_, hh⟩ : ∃ h_, chV Q [y, a, d, R, S] T = h_ := ⟨_, rfl⟩
    have hZk : (k + h_ * x % Q) % Q = Z := by rw [hZ, eqZ, hy, hd_, hRk, hSk, hh]
    obtain ⟨h0, hQQ⟩ : 0 ≤ h_ ∧ h_ < Q := by rw [← hh]; exact chV_range (by omega) _ _
    have y0 : 0 ≤ y := by rw [← hy]; exact powm_nonneg (by omega)
    have yP : y < P := by rw [← hy]; exact powm_lt (by omega)
    have d0 : 0 ≤ d := by rw [← hd_]; exact powm_nonneg (by omega)
    have dP : d < P := by rw [← hd_]; exact powm_lt (by omega)
    have R0 : 0 ≤ R := by rw [← hRk]; exact powm_nonneg (by omega)
    have RP : R < P := by rw [← hRk]; exact powm_lt (by omega)
    have S0 : 0 ≤ S := by rw [← hSk]; exact powm_nonneg (by omega)
    have SP : S < P := by rw [← hSk]; exact powm_lt (by omega)
    have UX := Lh (U64.of_lt x0 (by omega))
    have UK := Lh (U64.of_lt k0 (by omega))
    have HY := Lh hy
    have HD_ := Lh hd_
    have HRK := Lh hRk
    have HSK := Lh hSk
    have HCC := Lh hh
    have HUS := Lh (show ∀ z, z ∈ [y, a, d, R, S] → U64 z from fun z hz => by
     simp at hz
     rcases hz with rfl | rfl | rfl | rfl | rfl
     · exact U64.of_lt y0 (by omega)
     · exact U64.of_lt a0 (by omega)
     · exact U64.of_lt d0 (by omega)
     · exact U64.of_lt R0 (by omega)
     · exact U64.of_lt S0 (by omega))
    have HZS := Lh (show RetS (askS P Q G [x, k, h_] []) ((k + h_ * x % Q) % Q) Z 0 from .inl ⟨askS_ok HH.o (by simp; omega) (by simp), hZk.symm, rfl⟩)
    obtain ⟨mm, hmm⟩ : ∃ mm, h_ * x % Q = mm := ⟨_, rfl⟩
    have HMM := Lh hmm
    have HZM := Lh (show (k + mm) % Q = Z by rw [← hmm]; exact hZk)
    clear hmm y0_
    clear hy hd_ hRk hSk hh hZk hR hS hZ
    have F_g := Lh (show Boxed ((((w.alloc (.cells #[.int .u64 P, .int .u64 Q, .int .u64 G] 24)).alloc (.cells #[.int .u64 0, .int .u64 0, .int .u64 0] 53)).alloc (.cells #[.int .u64 x, .int .u64 k] 22)).alloc (.cells #[.int .u64 a] 22)) (w.heap.size) P Q G from (((Boxed.at _ P Q G _ (w.heap.size) (by simp)).alloc _).alloc _).alloc _)
    have F_es := Lh (show ShL ((((w.alloc (.cells #[.int .u64 P, .int .u64 Q, .int .u64 G] 24)).alloc (.cells #[.int .u64 0, .int .u64 0, .int .u64 0] 53)).alloc (.cells #[.int .u64 x, .int .u64 k] 22)).alloc (.cells #[.int .u64 a] 22)) (some ⟨w.heap.size + 1 + 1, 0, none⟩) 2 2 [x, k] from (ShL.laid _ [x, k] _ _ (w.heap.size + 1 + 1) _ _ (by simp) rfl rfl).alloc _)
    have F_ns := Lh (show ShL ((((w.alloc (.cells #[.int .u64 P, .int .u64 Q, .int .u64 G] 24)).alloc (.cells #[.int .u64 0, .int .u64 0, .int .u64 0] 53)).alloc (.cells #[.int .u64 x, .int .u64 k] 22)).alloc (.cells #[.int .u64 a] 22)) (some ⟨w.heap.size + 1 + 1 + 1, 0, none⟩) 1 1 [a] from ShL.laid _ [a] _ _ (w.heap.size + 1 + 1 + 1) _ _ (by simp) rfl rfl)
    have F_r := Lh (show Arr .u64 ((((w.alloc (.cells #[.int .u64 P, .int .u64 Q, .int .u64 G] 24)).alloc (.cells #[.int .u64 0, .int .u64 0, .int .u64 0] 53)).alloc (.cells #[.int .u64 x, .int .u64 k] 22)).alloc (.cells #[.int .u64 a] 22)) (w.heap.size + 1) [0, 0, 0] from ((Arr.new .u64 _ [0, 0, 0] _ (w.heap.size + 1) (by simp)).alloc _).alloc _)
    have HBW := Lh (show Below w.heap.size w ((((w.alloc (.cells #[.int .u64 P, .int .u64 Q, .int .u64 G] 24)).alloc (.cells #[.int .u64 0, .int .u64 0, .int .u64 0] 53)).alloc (.cells #[.int .u64 x, .int .u64 k] 22)).alloc (.cells #[.int .u64 a] 22)) from ((((Below.refl _ _).alloc (by simp <;> omega) _).alloc (by simp <;> omega) _).alloc (by simp <;> omega) _).alloc (by simp <;> omega) _)
    go_enter Tryz.func17, Tryz.ntmps17
    obtain ⟨q1_0, q1_1, q1_2, q1_3, q1_4, q1_5⟩ := Arr.k3 F_r.o
    obtain ⟨x0a, x0b, x0c, -⟩ := id F_g.o
    go_wp2_with fail
    clear x0a x0b x0c q1_0 q1_1 q1_2 q1_3 q1_4 q1_5
    refine (pcheck_any _ hP hQ hG F_es.o F_ns.o (by simp) (by simp) HR.o).mono ?_
    rintro e w1 ⟨rfl, hb1⟩
    replace F_g := Lh (F_g.o.keep hb1)
    replace F_r := Lh (F_r.o.keep hb1)
    replace F_es := Lh (F_es.o.keep hb1)
    replace F_ns := Lh (F_ns.o.keep hb1)
    replace HBW := Lh (HBW.o.trans (hb1.mono HBW.o.size))
    clear hb1
    clear F_es
    clear F_ns
    obtain ⟨q1_0, q1_1, q1_2, q1_3, q1_4, q1_5⟩ := Arr.k3 F_r.o
    obtain ⟨x0a, x0b, x0c, -⟩ := id F_g.o
    go_wp2_with fail
    clear x0a x0b x0c q1_0 q1_1 q1_2 q1_3 q1_4 q1_5
    refine (plong_any _ HLG.o).mono ?_
    rintro e w2 ⟨rfl, rfl⟩
    obtain ⟨q1_0, q1_1, q1_2, q1_3, q1_4, q1_5⟩ := Arr.k3 F_r.o
    obtain ⟨x0a, x0b, x0c, -⟩ := id F_g.o
    go_wp2_with fail
    clear x0a x0b x0c q1_0 q1_1 q1_2 q1_3 q1_4 q1_5
    go_cut [14] from 35 (fun c14 wx => ∃ Bp : Nat, c14 = .pointer (some ⟨Bp, 0, none⟩) ∧ Hid (EqIn w wx P Q G Bp R S 0))
    case first =>
     replace F_g := Lh F_g.o.drew
     replace F_r := Lh F_r.o.drew
     replace HBW := Lh HBW.o.drew
     refine wp_region_stage 8 (fun w' => SBox w' w.heap.size P Q G) (by kernel_rfl) ?_
     generalize w1.drew = wd7 at HBW F_g F_r ⊢
     have hS := F_g.o.s
     refine tkL (i := 0) (some 35) (.load 24 (.tmp 5)) 24 [4, 8] (v := ?_) hS (fun w' hSw => ?_) ?_
     rotate_left
     · obtain ⟨s0, s1, s2⟩ := hSw
       unfold bareOp; go_simp; try with_reducible rfl
     simp only [Act.put, sZ]
     refine tkP (i := 1) (some 36) (.fieldAddr 24 (.tmp 5) 2) 0 (fun _ => hS) ?_
     simp only [Act.put, sZ]
     refine tkL (i := 2) (some 37) (.load 22 (.tmp 36)) 22 [4, 8] (v := ?_) hS (fun w' hSw => ?_) ?_
     rotate_left
     · obtain ⟨s0, s1, s2⟩ := hSw
       unfold bareOp; go_simp; try with_reducible rfl
     simp only [Act.put, sZ]
     refine tkP (i := 3) (some 38) (.move (.tmp 3)) 22 (fun _ => hS) ?_
     simp only [Act.put, sZ]
     refine tkL (i := 5) (some 40) (.load 24 (.tmp 5)) 24 [8] (v := ?_) hS (fun w' hSw => ?_) ?_
     rotate_left
     · obtain ⟨s0, s1, s2⟩ := hSw
       unfold bareOp; go_simp; try with_reducible rfl
     simp only [Act.put, sZ]
     refine tkP (i := 6) (some 41) (.move (.tmp 1)) 22 (fun _ => hS) ?_
     simp only [Act.put, sZ]
     refine tkP (i := 7) (some 42) (.move (.tmp 3)) 22 (fun _ => hS) ?_
     simp only [Act.put, sZ]
     refine wpAnyB_two (i := 4) (j := 10) (some 39) (Op.call { callee := Callee.value (Operand.func 37), args := #[Operand.tmp 35, Operand.tmp 37, Operand.tmp 38], argTypes := #[24, 22, 22] }) 22 (some 14) (Op.alloc 53) 0 ⟨_, rfl, rfl, rfl, rfl, rfl⟩ ⟨_, rfl, rfl, rfl, rfl, rfl⟩ (by kernel_rfl) (fun K hK => ?_) (fun K hK => ?_)
     · skip
       unfold bareOp
       go_wp2_with (go_at_call 37; refine (ppow_ok _ HH.o hG gP UK.o HRK.o).mono ?_; rintro e w21 ⟨rfl, hb21⟩)
       replace F_g := Lh (F_g.o.keep hb21)
       replace F_r := Lh (F_r.o.keep hb21)
       replace HBW := Lh (HBW.o.trans (hb21.mono HBW.o.size))
       replace hS := F_g.o.s
       clear hb21
       refine hK.o _ _ (fun _ => hS) ?_
       clear hK K
       try simp only [Act.put, sZ]
       refine wpAnyB_two (i := 8) (j := 10) (some 43) (Op.call { callee := Callee.value (Operand.func 37), args := #[Operand.tmp 40, Operand.tmp 41, Operand.tmp 42], argTypes := #[24, 22, 22] }) 22 (some 14) (Op.alloc 53) 0 ⟨_, rfl, rfl, rfl, rfl, rfl⟩ ⟨_, rfl, rfl, rfl, rfl, rfl⟩ (by kernel_rfl) (fun K hK => ?_) (fun K hK => ?_)
       · skip
         unfold bareOp
         go_wp2_with (go_at_call 37; refine (ppow_ok _ HH.o a0 aP UK.o HSK.o).mono ?_; rintro e w22 ⟨rfl, hb22⟩)
         replace F_g := Lh (F_g.o.keep hb22)
         replace F_r := Lh (F_r.o.keep hb22)
         replace HBW := Lh (HBW.o.trans (hb22.mono HBW.o.size))
         replace hS := F_g.o.s
         clear hb22
         refine hK.o _ _ lt8 ?_
         clear hK K
         try simp only [Act.put, sZ]
         refine tkP (i := 9) (some 44) (.build 53 #[(0, .tmp 39), (1, .tmp 43)]) 53 lt8 ?_
         simp only [Act.put, sZ]
         refine onl (i := 10) (some 14) (.alloc 53) 0 (fun K hK => ?_)
         unfold bareOp
         go_wp2_with fail
         have lt_g := F_g.o.lt
         replace F_g := Lh (F_g.o.alloc (.cells #[.int .u64 0, .int .u64 0, .int .u64 0] 53))
         have lt_r := F_r.o.lt
         replace F_r := Lh (F_r.o.alloc (.cells #[.int .u64 0, .int .u64 0, .int .u64 0] 53))
         have F_p := Lh (show Arr .u64 (w22.alloc (.cells #[.int .u64 0, .int .u64 0, .int .u64 0] 53)) w22.heap.size [0, 0, 0] from Arr.new .u64 w22 [0, 0, 0] _ _ rfl)
         have hle := HBW.o.size
         have hbl : w.heap.size + 2 ≤ w22.heap.size := lt_r
         replace HBW := Lh (HBW.o.alloc HBW.o.size (.cells #[.int .u64 0, .int .u64 0, .int .u64 0] 53))
         replace hS := F_g.o.s
         generalize w22.alloc (.cells #[.int .u64 0, .int .u64 0, .int .u64 0] 53) = w23 at F_p HBW hS F_g F_r ⊢
         refine hK.o _ _ lt8 ?_
         clear hK K
         try simp only [Act.put, sZ]
         refine onl (i := 11) none (.store 53 (.tmp 14) (.tmp 44)) 0 (fun K hK => ?_)
         unfold bareOp
         obtain ⟨z0, z1, z2, z3, z4, z5⟩ := Arr.k3 F_p.o
         go_wp2_with fail
         clear z0 z1 z2 z3 z4 z5
         have hbS := ((((Below.refl w22.heap.size w23).setCell (p := ⟨w22.heap.size, 0, none⟩) (Nat.le_refl _) (.int .u64 R)).setCell (p := ⟨w22.heap.size, 1, none⟩) (Nat.le_refl _) (.int .u64 S)).setCell (p := ⟨w22.heap.size, 2, none⟩) (Nat.le_refl _) (.int .u64 0))
         replace F_g := Lh (F_g.o.under hbS lt_g)
         clear lt_g
         replace F_r := Lh (F_r.o.under hbS lt_r)
         clear lt_r
         replace F_p := Lh (F_p.o.st3 R S 0)
         replace HBW := Lh (HBW.o.trans (hbS.mono hle))
         clear hbS hS
         refine hK.o _ _ lt8 ?_
         clear hK K
         try simp only [Act.put, sZ]
         refine wpAnyB_done (by kernel_rfl) ?_ _
         go_wp2_with fail
         go_meet
         case rel => exact ⟨_, rfl, ⟨F_g.o, F_r.o, F_p.o, hbl, HBW.o⟩⟩
       · skip
         unfold bareOp
         go_wp2_with fail
         have lt_g := F_g.o.lt
         replace F_g := Lh (F_g.o.alloc (.cells #[.int .u64 0, .int .u64 0, .int .u64 0] 53))
         have lt_r := F_r.o.lt
         replace F_r := Lh (F_r.o.alloc (.cells #[.int .u64 0, .int .u64 0, .int .u64 0] 53))
         have F_p := Lh (show Arr .u64 (w21.alloc (.cells #[.int .u64 0, .int .u64 0, .int .u64 0] 53)) w21.heap.size [0, 0, 0] from Arr.new .u64 w21 [0, 0, 0] _ _ rfl)
         have hle := HBW.o.size
         have hbl : w.heap.size + 2 ≤ w21.heap.size := lt_r
         replace HBW := Lh (HBW.o.alloc HBW.o.size (.cells #[.int .u64 0, .int .u64 0, .int .u64 0] 53))
         replace hS := F_g.o.s
         generalize w21.alloc (.cells #[.int .u64 0, .int .u64 0, .int .u64 0] 53) = w25 at F_p HBW hS F_g F_r ⊢
         refine hK.o _ _ (fun _ => hS) ?_
         clear hK K
         try simp only [Act.put, sZ]
         refine onl (i := 8) (some 43) (.call { callee := .value (.func 37), args := #[.tmp 40, .tmp 41, .tmp 42], argTypes := #[24, 22, 22] }) 22 (fun K hK => ?_)
         unfold bareOp
         go_wp2_with (go_at_call 37; refine (ppow_ok _ HH.o a0 aP UK.o HSK.o).mono ?_; rintro e w26 ⟨rfl, hb26⟩)
         replace F_g := Lh (F_g.o.keep hb26)
         replace F_r := Lh (F_r.o.keep hb26)
         replace F_p := Lh (F_p.o.keep hb26)
         replace HBW := Lh (HBW.o.trans (hb26.mono HBW.o.size))
         replace hS := F_g.o.s
         clear hb26
         refine hK.o _ _ lt8 ?_
         clear hK K
         try simp only [Act.put, sZ]
         refine tkP (i := 9) (some 44) (.build 53 #[(0, .tmp 39), (1, .tmp 43)]) 53 lt8 ?_
         simp only [Act.put, sZ]
         refine onl (i := 11) none (.store 53 (.tmp 14) (.tmp 44)) 0 (fun K hK => ?_)
         unfold bareOp
         obtain ⟨z0, z1, z2, z3, z4, z5⟩ := Arr.k3 F_p.o
         go_wp2_with fail
         clear z0 z1 z2 z3 z4 z5
         have hbS := ((((Below.refl w21.heap.size w26).setCell (p := ⟨w21.heap.size, 0, none⟩) (Nat.le_refl _) (.int .u64 R)).setCell (p := ⟨w21.heap.size, 1, none⟩) (Nat.le_refl _) (.int .u64 S)).setCell (p := ⟨w21.heap.size, 2, none⟩) (Nat.le_refl _) (.int .u64 0))
         replace F_g := Lh (F_g.o.under hbS lt_g)
         clear lt_g
         replace F_r := Lh (F_r.o.under hbS lt_r)
         clear lt_r
         replace F_p := Lh (F_p.o.st3 R S 0)
         replace HBW := Lh (HBW.o.trans (hbS.mono hle))
         clear hbS hS
         refine hK.o _ _ lt8 ?_
         clear hK K
         try simp only [Act.put, sZ]
         refine wpAnyB_done (by kernel_rfl) ?_ _
         go_wp2_with fail
         go_meet
         case rel => exact ⟨_, rfl, ⟨F_g.o, F_r.o, F_p.o, hbl, HBW.o⟩⟩
     · skip
       unfold bareOp
       go_wp2_with fail
       have lt_g := F_g.o.lt
       replace F_g := Lh (F_g.o.alloc (.cells #[.int .u64 0, .int .u64 0, .int .u64 0] 53))
       have lt_r := F_r.o.lt
       replace F_r := Lh (F_r.o.alloc (.cells #[.int .u64 0, .int .u64 0, .int .u64 0] 53))
       have F_p := Lh (show Arr .u64 (wd7.alloc (.cells #[.int .u64 0, .int .u64 0, .int .u64 0] 53)) wd7.heap.size [0, 0, 0] from Arr.new .u64 wd7 [0, 0, 0] _ _ rfl)
       have hle := HBW.o.size
       have hbl : w.heap.size + 2 ≤ wd7.heap.size := lt_r
       replace HBW := Lh (HBW.o.alloc HBW.o.size (.cells #[.int .u64 0, .int .u64 0, .int .u64 0] 53))
       replace hS := F_g.o.s
       generalize wd7.alloc (.cells #[.int .u64 0, .int .u64 0, .int .u64 0] 53) = w28 at F_p HBW hS F_g F_r ⊢
       refine hK.o _ _ (fun _ => hS) ?_
       clear hK K
       try simp only [Act.put, sZ]
       refine onl (i := 4) (some 39) (.call { callee := .value (.func 37), args := #[.tmp 35, .tmp 37, .tmp 38], argTypes := #[24, 22, 22] }) 22 (fun K hK => ?_)
       unfold bareOp
       go_wp2_with (go_at_call 37; refine (ppow_ok _ HH.o hG gP UK.o HRK.o).mono ?_; rintro e w29 ⟨rfl, hb29⟩)
       replace F_g := Lh (F_g.o.keep hb29)
       replace F_r := Lh (F_r.o.keep hb29)
       replace F_p := Lh (F_p.o.keep hb29)
       replace HBW := Lh (HBW.o.trans (hb29.mono HBW.o.size))
       replace hS := F_g.o.s
       clear hb29
       refine hK.o _ _ (fun _ => hS) ?_
       clear hK K
       try simp only [Act.put, sZ]
       refine onl (i := 8) (some 43) (.call { callee := .value (.func 37), args := #[.tmp 40, .tmp 41, .tmp 42], argTypes := #[24, 22, 22] }) 22 (fun K hK => ?_)
       unfold bareOp
       go_wp2_with (go_at_call 37; refine (ppow_ok _ HH.o a0 aP UK.o HSK.o).mono ?_; rintro e w30 ⟨rfl, hb30⟩)
       replace F_g := Lh (F_g.o.keep hb30)
       replace F_r := Lh (F_r.o.keep hb30)
       replace F_p := Lh (F_p.o.keep hb30)
       replace HBW := Lh (HBW.o.trans (hb30.mono HBW.o.size))
       replace hS := F_g.o.s
       clear hb30
       refine hK.o _ _ lt8 ?_
       clear hK K
       try simp only [Act.put, sZ]
       refine tkP (i := 9) (some 44) (.build 53 #[(0, .tmp 39), (1, .tmp 43)]) 53 lt8 ?_
       simp only [Act.put, sZ]
       refine onl (i := 11) none (.store 53 (.tmp 14) (.tmp 44)) 0 (fun K hK => ?_)
       unfold bareOp
       obtain ⟨z0, z1, z2, z3, z4, z5⟩ := Arr.k3 F_p.o
       go_wp2_with fail
       clear z0 z1 z2 z3 z4 z5
       have hbS := ((((Below.refl wd7.heap.size w30).setCell (p := ⟨wd7.heap.size, 0, none⟩) (Nat.le_refl _) (.int .u64 R)).setCell (p := ⟨wd7.heap.size, 1, none⟩) (Nat.le_refl _) (.int .u64 S)).setCell (p := ⟨wd7.heap.size, 2, none⟩) (Nat.le_refl _) (.int .u64 0))
       replace F_g := Lh (F_g.o.under hbS lt_g)
       clear lt_g
       replace F_r := Lh (F_r.o.under hbS lt_r)
       clear lt_r
       replace F_p := Lh (F_p.o.st3 R S 0)
       replace HBW := Lh (HBW.o.trans (hbS.mono hle))
       clear hbS hS
       refine hK.o _ _ lt8 ?_
       clear hK K
       try simp only [Act.put, sZ]
       refine wpAnyB_done (by kernel_rfl) ?_ _
       go_wp2_with fail
       go_meet
       case rel => exact ⟨_, rfl, ⟨F_g.o, F_r.o, F_p.o, hbl, HBW.o⟩⟩
    case rest =>
     clear F_g F_r HBW
     obtain ⟨Bp, rfl, HE⟩ := hcut
     have F_g := Lh HE.o.g
     have F_r := Lh HE.o.r
     have F_p := Lh HE.o.p
     have HBW := Lh HE.o.bel
     have hne := HE.o.ne
     clear HE
     obtain ⟨q1_0, q1_1, q1_2, q1_3, q1_4, q1_5⟩ := Arr.k3 F_r.o
     obtain ⟨q2_0, q2_1, q2_2, q2_3, q2_4, q2_5⟩ := Arr.k3 F_p.o
     obtain ⟨x0a, x0b, x0c, -⟩ := id F_g.o
     go_wp2_with fail
     clear x0a x0b x0c q1_0 q1_1 q1_2 q1_3 q1_4 q1_5 q2_0 q2_1 q2_2 q2_3 q2_4 q2_5
     replace F_g := Lh F_g.o.drew
     replace F_r := Lh F_r.o.drew
     replace F_p := Lh F_p.o.drew
     replace HBW := Lh HBW.o.drew
     have hS := And.intro F_g.o.s F_p.o.s3
     refine wp_region_stage 17 (fun w' => SBox w' w.heap.size P Q G ∧ S3 w' Bp R S 0) (by kernel_rfl) ?_
     refine tkL (i := 0) (some 45) (.load 24 (.tmp 5)) 24 [17] (v := ?_) hS (fun w' hSw => ?_) ?_
     rotate_left
     · obtain ⟨⟨s0, s1, s2⟩, ⟨s3, s4, s5⟩⟩ := hSw
       unfold bareOp; go_simp; try with_reducible rfl
     simp only [Act.put, sZ]
     refine tkP (i := 1) (some 46) (.move (.tmp 4)) 56 (fun _ => hS) ?_
     simp only [Act.put, sZ]
     refine tkL (i := 2) (some 47) (.load 24 (.tmp 5)) 24 [6, 11, 16, 17] (v := ?_) hS (fun w' hSw => ?_) ?_
     rotate_left
     · obtain ⟨⟨s0, s1, s2⟩, ⟨s3, s4, s5⟩⟩ := hSw
       unfold bareOp; go_simp; try with_reducible rfl
     simp only [Act.put, sZ]
     refine tkP (i := 3) (some 48) (.fieldAddr 24 (.tmp 5) 2) 0 (fun _ => hS) ?_
     simp only [Act.put, sZ]
     refine tkL (i := 4) (some 49) (.load 22 (.tmp 48)) 22 [6, 11, 16, 17] (v := ?_) hS (fun w' hSw => ?_) ?_
     rotate_left
     · obtain ⟨⟨s0, s1, s2⟩, ⟨s3, s4, s5⟩⟩ := hSw
       unfold bareOp; go_simp; try with_reducible rfl
     simp only [Act.put, sZ]
     refine tkP (i := 5) (some 50) (.move (.tmp 2)) 22 (fun _ => hS) ?_
     simp only [Act.put, sZ]
     refine tkP (i := 7) (some 52) (.move (.tmp 1)) 22 (fun _ => hS) ?_
     simp only [Act.put, sZ]
     refine tkL (i := 8) (some 53) (.load 24 (.tmp 5)) 24 [11, 16, 17] (v := ?_) hS (fun w' hSw => ?_) ?_
     rotate_left
     · obtain ⟨⟨s0, s1, s2⟩, ⟨s3, s4, s5⟩⟩ := hSw
       unfold bareOp; go_simp; try with_reducible rfl
     simp only [Act.put, sZ]
     refine tkP (i := 9) (some 54) (.move (.tmp 1)) 22 (fun _ => hS) ?_
     simp only [Act.put, sZ]
     refine tkP (i := 10) (some 55) (.move (.tmp 2)) 22 (fun _ => hS) ?_
     simp only [Act.put, sZ]
     refine tkP (i := 12) (some 57) (.fieldAddr 53 (.tmp 14) 0) 0 (fun _ => hS) ?_
     simp only [Act.put, sZ]
     refine tkL (i := 13) (some 58) (.load 22 (.tmp 57)) 22 [16, 17] (v := ?_) hS (fun w' hSw => ?_) ?_
     rotate_left
     · obtain ⟨⟨s0, s1, s2⟩, ⟨s3, s4, s5⟩⟩ := hSw
       unfold bareOp; go_simp; try with_reducible rfl
     simp only [Act.put, sZ]
     refine tkP (i := 14) (some 59) (.fieldAddr 53 (.tmp 14) 1) 0 (fun _ => hS) ?_
     simp only [Act.put, sZ]
     refine tkL (i := 15) (some 60) (.load 22 (.tmp 59)) 22 [16, 17] (v := ?_) hS (fun w' hSw => ?_) ?_
     rotate_left
     · obtain ⟨⟨s0, s1, s2⟩, ⟨s3, s4, s5⟩⟩ := hSw
       unfold bareOp; go_simp; try with_reducible rfl
     simp only [Act.put, sZ]
     refine onl (i := 6) (some 51) (.call { callee := .value (.func 37), args := #[.tmp 47, .tmp 49, .tmp 50], argTypes := #[24, 22, 22] }) 22 (fun K hK => ?_)
     unfold bareOp
     go_wp2_with (go_at_call 37; refine (ppow_ok _ HH.o hG gP UX.o HY.o).mono ?_; rintro e w41 ⟨rfl, hb41⟩)
     replace F_g := Lh (F_g.o.keep hb41)
     replace F_r := Lh (F_r.o.keep hb41)
     replace F_p := Lh (F_p.o.keep hb41)
     replace HBW := Lh (HBW.o.trans (hb41.mono HBW.o.size))
     replace hS := And.intro F_g.o.s F_p.o.s3
     clear hb41
     refine hK.o _ _ (fun _ => hS) ?_
     clear hK K
     try simp only [Act.put, sZ]
     refine onl (i := 11) (some 56) (.call { callee := .value (.func 37), args := #[.tmp 53, .tmp 54, .tmp 55], argTypes := #[24, 22, 22] }) 22 (fun K hK => ?_)
     unfold bareOp
     go_wp2_with (go_at_call 37; refine (ppow_ok _ HH.o a0 aP UX.o HD_.o).mono ?_; rintro e w42 ⟨rfl, hb42⟩)
     replace F_g := Lh (F_g.o.keep hb42)
     replace F_r := Lh (F_r.o.keep hb42)
     replace F_p := Lh (F_p.o.keep hb42)
     replace HBW := Lh (HBW.o.trans (hb42.mono HBW.o.size))
     replace hS := And.intro F_g.o.s F_p.o.s3
     clear hb42
     refine hK.o _ _ (fun _ => hS) ?_
     clear hK K
     try simp only [Act.put, sZ]
     refine onl (i := 16) (some 61) (.buildSlice 26 5 #[(0, .tmp 51), (1, .tmp 52), (2, .tmp 56), (3, .tmp 58), (4, .tmp 60)]) 26 (fun K hK => ?_)
     unfold bareOp
     go_wp2_with fail
     have F_ms := Lh (ShL.laid w42 [y, a, d, R, S] _ 22 _ 5 5 rfl rfl rfl)
     replace F_g := Lh (F_g.o.alloc (.cells #[.int .u64 y, .int .u64 a, .int .u64 d, .int .u64 R, .int .u64 S] 22))
     replace F_r := Lh (F_r.o.alloc (.cells #[.int .u64 y, .int .u64 a, .int .u64 d, .int .u64 R, .int .u64 S] 22))
     replace F_p := Lh (F_p.o.alloc (.cells #[.int .u64 y, .int .u64 a, .int .u64 d, .int .u64 R, .int .u64 S] 22))
     replace HBW := Lh (HBW.o.alloc HBW.o.size (.cells #[.int .u64 y, .int .u64 a, .int .u64 d, .int .u64 R, .int .u64 S] 22))
     replace hS := And.intro F_g.o.s F_p.o.s3
     refine hK.o _ _ (fun _ => hS) ?_
     clear hK K
     try simp only [Act.put, sZ]
     refine onl (i := 17) (some 62) (.call { callee := .value (.func 38), args := #[.tmp 45, .tmp 46, .tmp 61], argTypes := #[24, 56, 26] }) 22 (fun K hK => ?_)
     unfold bareOp
     go_wp2_with (go_at_call 38; refine (pchallenge_any _ (HT.o.keep HBW.o) HH.o F_ms.o HUS.o (by simp) hn8 HCC.o).mono ?_; rintro e w43 ⟨rfl, hb43⟩)
     replace F_g := Lh (F_g.o.keep hb43)
     replace F_r := Lh (F_r.o.keep hb43)
     replace F_p := Lh (F_p.o.keep hb43)
     replace F_ms := Lh (F_ms.o.keep hb43)
     replace HBW := Lh (HBW.o.trans (hb43.mono HBW.o.size))
     replace hS := And.intro F_g.o.s F_p.o.s3
     clear hb43
     refine hK.o _ _ lt8 ?_
     clear hK K
     try simp only [Act.put, sZ]
     refine tkP (i := 18) (some 15) (.assign (.tmp 62)) 22 lt8 ?_
     simp only [Act.put, sZ]
     refine wpAnyB_done (by kernel_rfl) ?_ _
     clear F_ms
     obtain ⟨q1_0, q1_1, q1_2, q1_3, q1_4, q1_5⟩ := Arr.k3 F_r.o
     obtain ⟨q2_0, q2_1, q2_2, q2_3, q2_4, q2_5⟩ := Arr.k3 F_p.o
     obtain ⟨x0a, x0b, x0c, -⟩ := id F_g.o
     go_wp2_with fail
     clear x0a x0b x0c q1_0 q1_1 q1_2 q1_3 q1_4 q1_5 q2_0 q2_1 q2_2 q2_3 q2_4 q2_5
     refine (srespond_any (v := Z) (r := 0) _ hP hQ hG x0 k0 h0 HZS.o).mono ?_
     rintro e w44 ⟨rfl, hb44⟩
     replace F_g := Lh (F_g.o.keep hb44)
     replace F_r := Lh (F_r.o.keep hb44)
     replace F_p := Lh (F_p.o.keep hb44)
     replace HBW := Lh (HBW.o.trans (hb44.mono HBW.o.size))
     clear hb44
     obtain ⟨q1_0, q1_1, q1_2, q1_3, q1_4, q1_5⟩ := Arr.k3 F_r.o
     obtain ⟨q2_0, q2_1, q2_2, q2_3, q2_4, q2_5⟩ := Arr.k3 F_p.o
     obtain ⟨x0a, x0b, x0c, -⟩ := id F_g.o
     go_wp2_with fail
     clear x0a x0b x0c q1_0 q1_1 q1_2 q1_3 q1_4 q1_5 q2_0 q2_1 q2_2 q2_3 q2_4 q2_5
     have hr2 : w.heap.size + 1 ≠ Bp := by omega
     exact bodyPost_ret (res_eq rfl ((F_r.o.far (Ne.symm hr2) (.int .u64 Z)).st3 R S Z) _ rfl rfl) rfl ⟨rfl, (((HBW.o.setCell (show w.heap.size ≤ Bp by omega) _).setCell (by simp <;> omega) _).setCell (by simp <;> omega) _).setCell (by simp <;> omega) _⟩
  · by_cases ha : askS P Q G [x, k] [a] = 0
    · have hn8 := lgS_long ha h
      obtain rfl : c = 4 := by rw [hc]; exact lgS_four ha hn8
      have HR := Lh ha
      have HLG := Lh (show lgS 0 n = 4 from lgS_four rfl hn8)
      clear h hc ha
      have F_g := Lh (show Boxed ((((w.alloc (.cells #[.int .u64 P, .int .u64 Q, .int .u64 G] 24)).alloc (.cells #[.int .u64 0, .int .u64 0, .int .u64 0] 53)).alloc (.cells #[.int .u64 x, .int .u64 k] 22)).alloc (.cells #[.int .u64 a] 22)) (w.heap.size) P Q G from (((Boxed.at _ P Q G _ (w.heap.size) (by simp)).alloc _).alloc _).alloc _)
      have F_es := Lh (show ShL ((((w.alloc (.cells #[.int .u64 P, .int .u64 Q, .int .u64 G] 24)).alloc (.cells #[.int .u64 0, .int .u64 0, .int .u64 0] 53)).alloc (.cells #[.int .u64 x, .int .u64 k] 22)).alloc (.cells #[.int .u64 a] 22)) (some ⟨w.heap.size + 1 + 1, 0, none⟩) 2 2 [x, k] from (ShL.laid _ [x, k] _ _ (w.heap.size + 1 + 1) _ _ (by simp) rfl rfl).alloc _)
      have F_ns := Lh (show ShL ((((w.alloc (.cells #[.int .u64 P, .int .u64 Q, .int .u64 G] 24)).alloc (.cells #[.int .u64 0, .int .u64 0, .int .u64 0] 53)).alloc (.cells #[.int .u64 x, .int .u64 k] 22)).alloc (.cells #[.int .u64 a] 22)) (some ⟨w.heap.size + 1 + 1 + 1, 0, none⟩) 1 1 [a] from ShL.laid _ [a] _ _ (w.heap.size + 1 + 1 + 1) _ _ (by simp) rfl rfl)
      have F_r := Lh (show Arr .u64 ((((w.alloc (.cells #[.int .u64 P, .int .u64 Q, .int .u64 G] 24)).alloc (.cells #[.int .u64 0, .int .u64 0, .int .u64 0] 53)).alloc (.cells #[.int .u64 x, .int .u64 k] 22)).alloc (.cells #[.int .u64 a] 22)) (w.heap.size + 1) [0, 0, 0] from ((Arr.new .u64 _ [0, 0, 0] _ (w.heap.size + 1) (by simp)).alloc _).alloc _)
      have HBW := Lh (show Below w.heap.size w ((((w.alloc (.cells #[.int .u64 P, .int .u64 Q, .int .u64 G] 24)).alloc (.cells #[.int .u64 0, .int .u64 0, .int .u64 0] 53)).alloc (.cells #[.int .u64 x, .int .u64 k] 22)).alloc (.cells #[.int .u64 a] 22)) from ((((Below.refl _ _).alloc (by simp <;> omega) _).alloc (by simp <;> omega) _).alloc (by simp <;> omega) _).alloc (by simp <;> omega) _)
      go_enter Tryz.func17, Tryz.ntmps17
      obtain ⟨q1_0, q1_1, q1_2, q1_3, q1_4, q1_5⟩ := Arr.k3 F_r.o
      obtain ⟨x0a, x0b, x0c, -⟩ := id F_g.o
      go_wp2_with fail
      clear x0a x0b x0c q1_0 q1_1 q1_2 q1_3 q1_4 q1_5
      refine (pcheck_any _ hP hQ hG F_es.o F_ns.o (by simp) (by simp) HR.o).mono ?_
      rintro e w1 ⟨rfl, hb1⟩
      replace F_g := Lh (F_g.o.keep hb1)
      replace F_r := Lh (F_r.o.keep hb1)
      replace F_es := Lh (F_es.o.keep hb1)
      replace F_ns := Lh (F_ns.o.keep hb1)
      replace HBW := Lh (HBW.o.trans (hb1.mono HBW.o.size))
      clear hb1
      clear F_es
      clear F_ns
      obtain ⟨q1_0, q1_1, q1_2, q1_3, q1_4, q1_5⟩ := Arr.k3 F_r.o
      obtain ⟨x0a, x0b, x0c, -⟩ := id F_g.o
      go_wp2_with fail
      clear x0a x0b x0c q1_0 q1_1 q1_2 q1_3 q1_4 q1_5
      refine (plong_any _ HLG.o).mono ?_
      rintro e w2 ⟨rfl, rfl⟩
      obtain ⟨q1_0, q1_1, q1_2, q1_3, q1_4, q1_5⟩ := Arr.k3 F_r.o
      obtain ⟨x0a, x0b, x0c, -⟩ := id F_g.o
      go_wp2_with fail
      exact bodyPost_ret (res_eq rfl (F_r.o.st3 0 0 0) _ rfl rfl) rfl ⟨rfl, (((HBW.o).setCell (by simp <;> omega) _).setCell (by simp <;> omega) _).setCell (by simp <;> omega) _⟩
    · have hc' : c = askS P Q G [x, k] [a] := by rw [hc]; exact lgS_ne ha
      have hnc : c ≠ 0 := by rw [hc']; exact ha
      have hn1 : (c != 0) = true := by simpa using hnc
      have hn2 : (c == 0) = false := by simpa using hnc
      have HR := Lh hc'.symm
      clear h hc ha hc' hnc
      have F_g := Lh (show Boxed ((((w.alloc (.cells #[.int .u64 P, .int .u64 Q, .int .u64 G] 24)).alloc (.cells #[.int .u64 0, .int .u64 0, .int .u64 0] 53)).alloc (.cells #[.int .u64 x, .int .u64 k] 22)).alloc (.cells #[.int .u64 a] 22)) (w.heap.size) P Q G from (((Boxed.at _ P Q G _ (w.heap.size) (by simp)).alloc _).alloc _).alloc _)
      have F_es := Lh (show ShL ((((w.alloc (.cells #[.int .u64 P, .int .u64 Q, .int .u64 G] 24)).alloc (.cells #[.int .u64 0, .int .u64 0, .int .u64 0] 53)).alloc (.cells #[.int .u64 x, .int .u64 k] 22)).alloc (.cells #[.int .u64 a] 22)) (some ⟨w.heap.size + 1 + 1, 0, none⟩) 2 2 [x, k] from (ShL.laid _ [x, k] _ _ (w.heap.size + 1 + 1) _ _ (by simp) rfl rfl).alloc _)
      have F_ns := Lh (show ShL ((((w.alloc (.cells #[.int .u64 P, .int .u64 Q, .int .u64 G] 24)).alloc (.cells #[.int .u64 0, .int .u64 0, .int .u64 0] 53)).alloc (.cells #[.int .u64 x, .int .u64 k] 22)).alloc (.cells #[.int .u64 a] 22)) (some ⟨w.heap.size + 1 + 1 + 1, 0, none⟩) 1 1 [a] from ShL.laid _ [a] _ _ (w.heap.size + 1 + 1 + 1) _ _ (by simp) rfl rfl)
      have F_r := Lh (show Arr .u64 ((((w.alloc (.cells #[.int .u64 P, .int .u64 Q, .int .u64 G] 24)).alloc (.cells #[.int .u64 0, .int .u64 0, .int .u64 0] 53)).alloc (.cells #[.int .u64 x, .int .u64 k] 22)).alloc (.cells #[.int .u64 a] 22)) (w.heap.size + 1) [0, 0, 0] from ((Arr.new .u64 _ [0, 0, 0] _ (w.heap.size + 1) (by simp)).alloc _).alloc _)
      have HBW := Lh (show Below w.heap.size w ((((w.alloc (.cells #[.int .u64 P, .int .u64 Q, .int .u64 G] 24)).alloc (.cells #[.int .u64 0, .int .u64 0, .int .u64 0] 53)).alloc (.cells #[.int .u64 x, .int .u64 k] 22)).alloc (.cells #[.int .u64 a] 22)) from ((((Below.refl _ _).alloc (by simp <;> omega) _).alloc (by simp <;> omega) _).alloc (by simp <;> omega) _).alloc (by simp <;> omega) _)
      go_enter Tryz.func17, Tryz.ntmps17
      obtain ⟨q1_0, q1_1, q1_2, q1_3, q1_4, q1_5⟩ := Arr.k3 F_r.o
      obtain ⟨x0a, x0b, x0c, -⟩ := id F_g.o
      go_wp2_with fail
      clear x0a x0b x0c q1_0 q1_1 q1_2 q1_3 q1_4 q1_5
      refine (pcheck_any _ hP hQ hG F_es.o F_ns.o (by simp) (by simp) HR.o).mono ?_
      rintro e w1 ⟨rfl, hb1⟩
      replace F_g := Lh (F_g.o.keep hb1)
      replace F_r := Lh (F_r.o.keep hb1)
      replace F_es := Lh (F_es.o.keep hb1)
      replace F_ns := Lh (F_ns.o.keep hb1)
      replace HBW := Lh (HBW.o.trans (hb1.mono HBW.o.size))
      clear hb1
      clear F_es
      clear F_ns
      obtain ⟨q1_0, q1_1, q1_2, q1_3, q1_4, q1_5⟩ := Arr.k3 F_r.o
      obtain ⟨x0a, x0b, x0c, -⟩ := id F_g.o
      go_wp2_with fail
      exact bodyPost_ret (res_eq rfl (F_r.o.st3 0 0 0) _ rfl rfl) rfl ⟨rfl, (((HBW.o).setCell (by simp <;> omega) _).setCell (by simp <;> omega) _).setCell (by simp <;> omega) _⟩
end Go.Proofs.YtkjkdfhjfnoalaaGreatDoor
