/- proof.EqualProve, EqualVerify. -/
import Derived.Test.YtmcpfinnhgbcpaaDoorEqA
import Derived.Test.YtmcpfinnhgbcpaaDoorEqB0
import Derived.Test.YtmcpfinnhgbcpaaDoorStg
import Derived.Deep.Cut
namespace Go.Proofs.YtmcpfinnhgbcpaaDoor
open Go Go.RowKit Num Sha
set_option linter.unusedSimpArgs false
set_option linter.unusedVariables false

set_option maxRecDepth 100000 in
set_option maxHeartbeats 4000000 in
theorem peqProve_any {P Q G a x k R S Z c : Int} {tx : Option Addr} {n cp : Nat} {T : List Int} (w : World) (hT : Txt w tx n T) (hP : 0 ≤ P) (hQ : 0 ≤ Q) (hG : 0 ≤ G) (a0 : 0 ≤ a) (x0 : 0 ≤ x) (k0 : 0 ≤ k) (hn : n ≤ 8100) (h : RetE (lgS (askS P Q G [x, k] [a]) n) (powm G k P) (powm a k P) (eqZ P Q G a x k T) R S Z c) :
    Calls Tryd.prog 10 #[.agg #[.int .u64 P, .int .u64 Q, .int .u64 G], .int .u64 a, .int .u64 x, .int .u64 k, .slice tx n cp] w fun e w' => e = .returned (.tuple #[.agg #[.int .u64 R, .int .u64 S, .int .u64 Z], .int .i64 c]) ∧ Below w.heap.size w w' := by
  have HT := Lib.hid hT
  clear hT
  rcases h with ⟨h, hR, hS, hZ, rfl⟩ | ⟨h, rfl, rfl, rfl, hc⟩
  · obtain ⟨h, hn8⟩ := lgS_zero h
    obtain ⟨hH, he, hnn⟩ := askS_zero h
    have xQ := he x (by simp)
    have kQ := he k (by simp)
    have aP := hnn a (by simp)
    have HR := Lib.hid h
    have HLG := Lib.hid (show lgS 0 n = 0 from lgS_ok rfl hn8)
    clear h he hnn
    obtain ⟨p5, p3, hQ', pq, g2, gP⟩ := id hH
    have hP1 : 1 ≤ P := by omega
    have hGM : G < 2147483648 := by omega
    have q3 : Q < 1073741824 := by omega
    have q2 : 2 ≤ Q := by omega
    have HH := Lib.hid hH
    clear hH pq
    have y0_ := 0
    obtain ⟨y, hy⟩ : ∃ y, powm G x P = y := ⟨_, rfl⟩
    obtain ⟨d, hd_⟩ : ∃ d, powm a x P = d := ⟨_, rfl⟩
    have hRk : powm G k P = R := hR.symm
    have hSk : powm a k P = S := hS.symm
    obtain ⟨h_, hh⟩ : ∃ h_, chV Q [y, a, d, R, S] T = h_ := ⟨_, rfl⟩
    have hZk : (k + h_ * x % Q) % Q = Z := by rw [hZ, eqZ, hy, hd_, hRk, hSk, hh]
    obtain ⟨h0, hQQ⟩ : 0 ≤ h_ ∧ h_ < Q := by rw [← hh]; exact chV_range (by omega) _ _
    have y0 : 0 ≤ y := by rw [← hy]; exact powm_nonneg (by omega)
    have yP : y < P := by rw [← hy]; exact powm_lt (by omega)
    have d0 : 0 ≤ d := by rw [← hd_]; exact powm_nonneg (by omega)
    have dP : d < P := by rw [← hd_]; exact powm_lt (by omega)
    have R0 : 0 ≤ R := by rw [← hRk]; exact powm_nonneg (by omega)
    have RP : R < P := by rw [← hRk]; exact powm_lt (by omega)
    have S0 : 0 ≤ S := by rw [← hSk]; exact powm_nonneg (by omega)
    have SP : S < P := by rw [← hSk]; exact powm_lt (by omega)
    have UX := Lib.hid (U64.of_lt x0 (by omega))
    have UK := Lib.hid (U64.of_lt k0 (by omega))
    have HY := Lib.hid hy
    have HD_ := Lib.hid hd_
    have HRK := Lib.hid hRk
    have HSK := Lib.hid hSk
    have HCC := Lib.hid hh
    have HUS := Lib.hid (show ∀ z, z ∈ [y, a, d, R, S] → U64 z from fun z hz => by
      simp at hz
      rcases hz with rfl | rfl | rfl | rfl | rfl
      · exact U64.of_lt y0 (by omega)
      · exact U64.of_lt a0 (by omega)
      · exact U64.of_lt d0 (by omega)
      · exact U64.of_lt R0 (by omega)
      · exact U64.of_lt S0 (by omega))
    have HZS := Lib.hid (show RetS (askS P Q G [x, k, h_] []) ((k + h_ * x % Q) % Q) Z 0 from .inl ⟨askS_ok HH.out (by simp; omega) (by simp), hZk.symm, rfl⟩)
    obtain ⟨mm, hmm⟩ : ∃ mm, h_ * x % Q = mm := ⟨_, rfl⟩
    have HMM := Lib.hid hmm
    have HZM := Lib.hid (show (k + mm) % Q = Z by rw [← hmm]; exact hZk)
    clear hmm y0_
    clear hy hd_ hRk hSk hh hZk hR hS hZ
    have F_g := Lib.hid (show Boxed ((((w.alloc (.cells #[.int .u64 P, .int .u64 Q, .int .u64 G] 24)).alloc (.cells #[.int .u64 0, .int .u64 0, .int .u64 0] 26)).alloc (.cells #[.int .u64 x, .int .u64 k] 22)).alloc (.cells #[.int .u64 a] 22)) (w.heap.size) P Q G from (((Boxed.at _ P Q G _ (w.heap.size) (by simp)).alloc _).alloc _).alloc _)
    have F_es := Lib.hid (show ShL ((((w.alloc (.cells #[.int .u64 P, .int .u64 Q, .int .u64 G] 24)).alloc (.cells #[.int .u64 0, .int .u64 0, .int .u64 0] 26)).alloc (.cells #[.int .u64 x, .int .u64 k] 22)).alloc (.cells #[.int .u64 a] 22)) (some ⟨w.heap.size + 1 + 1, 0, none⟩) 2 2 [x, k] from (ShL.laid _ [x, k] _ _ (w.heap.size + 1 + 1) _ _ (by simp) rfl rfl).alloc _)
    have F_ns := Lib.hid (show ShL ((((w.alloc (.cells #[.int .u64 P, .int .u64 Q, .int .u64 G] 24)).alloc (.cells #[.int .u64 0, .int .u64 0, .int .u64 0] 26)).alloc (.cells #[.int .u64 x, .int .u64 k] 22)).alloc (.cells #[.int .u64 a] 22)) (some ⟨w.heap.size + 1 + 1 + 1, 0, none⟩) 1 1 [a] from ShL.laid _ [a] _ _ (w.heap.size + 1 + 1 + 1) _ _ (by simp) rfl rfl)
    have F_r := Lib.hid (show Arr .u64 ((((w.alloc (.cells #[.int .u64 P, .int .u64 Q, .int .u64 G] 24)).alloc (.cells #[.int .u64 0, .int .u64 0, .int .u64 0] 26)).alloc (.cells #[.int .u64 x, .int .u64 k] 22)).alloc (.cells #[.int .u64 a] 22)) (w.heap.size + 1) [0, 0, 0] from ((Arr.new .u64 _ [0, 0, 0] _ (w.heap.size + 1) (by simp)).alloc _).alloc _)
    have HBW := Lib.hid (show Below w.heap.size w ((((w.alloc (.cells #[.int .u64 P, .int .u64 Q, .int .u64 G] 24)).alloc (.cells #[.int .u64 0, .int .u64 0, .int .u64 0] 26)).alloc (.cells #[.int .u64 x, .int .u64 k] 22)).alloc (.cells #[.int .u64 a] 22)) from ((((Below.refl _ _).alloc (by simp <;> omega) _).alloc (by simp <;> omega) _).alloc (by simp <;> omega) _).alloc (by simp <;> omega) _)
    go_enter Tryd.func10, Tryd.ntmps10
    obtain ⟨q1_0, q1_1, q1_2, q1_3, q1_4, q1_5⟩ := Arr.k3 F_r.out
    obtain ⟨x0a, x0b, x0c, -⟩ := id F_g.out
    go_wp2_with fail
    clear x0a x0b x0c q1_0 q1_1 q1_2 q1_3 q1_4 q1_5
    refine (pcheck_any _ hP hQ hG F_es.out F_ns.out (by simp) (by simp) HR.out).mono ?_
    rintro e w1 ⟨rfl, hb1⟩
    replace F_g := Lib.hid (F_g.out.keep hb1)
    replace F_r := Lib.hid (F_r.out.keep hb1)
    replace F_es := Lib.hid (F_es.out.keep hb1)
    replace F_ns := Lib.hid (F_ns.out.keep hb1)
    replace HBW := Lib.hid (HBW.out.trans (hb1.mono HBW.out.size))
    clear hb1
    clear F_es
    clear F_ns
    obtain ⟨q1_0, q1_1, q1_2, q1_3, q1_4, q1_5⟩ := Arr.k3 F_r.out
    obtain ⟨x0a, x0b, x0c, -⟩ := id F_g.out
    go_wp2_with fail
    clear x0a x0b x0c q1_0 q1_1 q1_2 q1_3 q1_4 q1_5
    refine (plong_any _ HLG.out).mono ?_
    rintro e w2 ⟨rfl, rfl⟩
    obtain ⟨q1_0, q1_1, q1_2, q1_3, q1_4, q1_5⟩ := Arr.k3 F_r.out
    obtain ⟨x0a, x0b, x0c, -⟩ := id F_g.out
    go_wp2_with fail
    clear x0a x0b x0c q1_0 q1_1 q1_2 q1_3 q1_4 q1_5
    go_cut [14] from 35 (fun c14 wx => ∃ Bp : Nat, c14 = .pointer (some ⟨Bp, 0, none⟩) ∧ Hid (EqIn w wx P Q G Bp R S 0))
    case first =>
      replace F_g := Lib.hid F_g.out.drew
      replace F_r := Lib.hid F_r.out.drew
      replace HBW := Lib.hid HBW.out.drew
      refine wp_region_stage 8 (fun w' => SBox w' w.heap.size P Q G) (by kernel_rfl) ?_
      generalize w1.drew = wd7 at HBW F_g F_r ⊢
      have hS := F_g.out.s
      refine wpAnyB_take (i := 0) (some 35) (Op.load 24 (Operand.tmp 5)) 24 (v := ?_) ⟨_, rfl, rfl, rfl, rfl, rfl⟩ (by kernel_rfl) (by kernel_rfl) (by kernel_rfl) [4, 8] (by kernel_rfl) (fun _ _ _ h => h) hS (fun w' hSw => ?_) ?_
      rotate_left
      · obtain ⟨s0, s1, s2⟩ := hSw
        unfold bareOp
        go_simp
        try with_reducible rfl
      simp only [Act.put, List.setIfInBounds_toArray, List.set_cons_zero, List.set_cons_succ]
      refine wpAnyB_takeP (i := 1) (some 36) (Op.fieldAddr 24 (Operand.tmp 5) 2) 0 (v := ?_) ⟨_, rfl, rfl, rfl, rfl, rfl⟩ (by kernel_rfl) (by kernel_rfl) (by kernel_rfl) (by kernel_rfl) (fun _ _ _ h => h) (fun _ => hS) (fun w' => ?_) ?_
      rotate_left
      · unfold bareOp
        go_simp
        try with_reducible rfl
      simp only [Act.put, List.setIfInBounds_toArray, List.set_cons_zero, List.set_cons_succ]
      refine wpAnyB_take (i := 2) (some 37) (Op.load 22 (Operand.tmp 36)) 22 (v := ?_) ⟨_, rfl, rfl, rfl, rfl, rfl⟩ (by kernel_rfl) (by kernel_rfl) (by kernel_rfl) [4, 8] (by kernel_rfl) (fun _ _ _ h => h) hS (fun w' hSw => ?_) ?_
      rotate_left
      · obtain ⟨s0, s1, s2⟩ := hSw
        unfold bareOp
        go_simp
        try with_reducible rfl
      simp only [Act.put, List.setIfInBounds_toArray, List.set_cons_zero, List.set_cons_succ]
      refine wpAnyB_takeP (i := 3) (some 38) (Op.move (Operand.tmp 3)) 22 (v := ?_) ⟨_, rfl, rfl, rfl, rfl, rfl⟩ (by kernel_rfl) (by kernel_rfl) (by kernel_rfl) (by kernel_rfl) (fun _ _ _ h => h) (fun _ => hS) (fun w' => ?_) ?_
      rotate_left
      · unfold bareOp
        go_simp
        try with_reducible rfl
      simp only [Act.put, List.setIfInBounds_toArray, List.set_cons_zero, List.set_cons_succ]
      refine wpAnyB_take (i := 5) (some 40) (Op.load 24 (Operand.tmp 5)) 24 (v := ?_) ⟨_, rfl, rfl, rfl, rfl, rfl⟩ (by kernel_rfl) (by kernel_rfl) (by kernel_rfl) [8] (by kernel_rfl) (fun _ _ _ h => h) hS (fun w' hSw => ?_) ?_
      rotate_left
      · obtain ⟨s0, s1, s2⟩ := hSw
        unfold bareOp
        go_simp
        try with_reducible rfl
      simp only [Act.put, List.setIfInBounds_toArray, List.set_cons_zero, List.set_cons_succ]
      refine wpAnyB_takeP (i := 6) (some 41) (Op.move (Operand.tmp 1)) 22 (v := ?_) ⟨_, rfl, rfl, rfl, rfl, rfl⟩ (by kernel_rfl) (by kernel_rfl) (by kernel_rfl) (by kernel_rfl) (fun _ _ _ h => h) (fun _ => hS) (fun w' => ?_) ?_
      rotate_left
      · unfold bareOp
        go_simp
        try with_reducible rfl
      simp only [Act.put, List.setIfInBounds_toArray, List.set_cons_zero, List.set_cons_succ]
      refine wpAnyB_takeP (i := 7) (some 42) (Op.move (Operand.tmp 3)) 22 (v := ?_) ⟨_, rfl, rfl, rfl, rfl, rfl⟩ (by kernel_rfl) (by kernel_rfl) (by kernel_rfl) (by kernel_rfl) (fun _ _ _ h => h) (fun _ => hS) (fun w' => ?_) ?_
      rotate_left
      · unfold bareOp
        go_simp
        try with_reducible rfl
      simp only [Act.put, List.setIfInBounds_toArray, List.set_cons_zero, List.set_cons_succ]
      refine wpAnyB_two (i := 4) (j := 10) (some 39) (Op.call { callee := Callee.value (Operand.func 31), args := #[Operand.tmp 35, Operand.tmp 37, Operand.tmp 38], argTypes := #[24, 22, 22] }) 22 (some 14) (Op.alloc 26) 0 ⟨_, rfl, rfl, rfl, rfl, rfl⟩ ⟨_, rfl, rfl, rfl, rfl, rfl⟩ (by kernel_rfl) (fun K hK => ?_) (fun K hK => ?_)
      · skip
        unfold bareOp
        go_wp2_with (go_at_call 31; refine (ppow_ok _ HH.out hG gP UK.out HRK.out).mono ?_; rintro e w21 ⟨rfl, hb21⟩)
        replace F_g := Lib.hid (F_g.out.keep hb21)
        replace F_r := Lib.hid (F_r.out.keep hb21)
        replace HBW := Lib.hid (HBW.out.trans (hb21.mono HBW.out.size))
        replace hS := F_g.out.s
        clear hb21
        refine hK.out _ _ (fun _ => hS) ?_
        clear hK K
        try simp only [Act.put, List.setIfInBounds_toArray, List.set_cons_zero, List.set_cons_succ]
        refine wpAnyB_two (i := 8) (j := 10) (some 43) (Op.call { callee := Callee.value (Operand.func 31), args := #[Operand.tmp 40, Operand.tmp 41, Operand.tmp 42], argTypes := #[24, 22, 22] }) 22 (some 14) (Op.alloc 26) 0 ⟨_, rfl, rfl, rfl, rfl, rfl⟩ ⟨_, rfl, rfl, rfl, rfl, rfl⟩ (by kernel_rfl) (fun K hK => ?_) (fun K hK => ?_)
        · skip
          unfold bareOp
          go_wp2_with (go_at_call 31; refine (ppow_ok _ HH.out a0 aP UK.out HSK.out).mono ?_; rintro e w22 ⟨rfl, hb22⟩)
          replace F_g := Lib.hid (F_g.out.keep hb22)
          replace F_r := Lib.hid (F_r.out.keep hb22)
          replace HBW := Lib.hid (HBW.out.trans (hb22.mono HBW.out.size))
          replace hS := F_g.out.s
          clear hb22
          refine hK.out _ _ (fun h => absurd (h.symm.trans (by kernel_rfl : _ = true)) (by decide)) ?_
          clear hK K
          try simp only [Act.put, List.setIfInBounds_toArray, List.set_cons_zero, List.set_cons_succ]
          refine wpAnyB_takeP (i := 9) (some 44) (Op.build 26 #[(0, Operand.tmp 39), (1, Operand.tmp 43)]) 26 (v := ?_) ⟨_, rfl, rfl, rfl, rfl, rfl⟩ (by kernel_rfl) (by kernel_rfl) (by kernel_rfl) (by kernel_rfl) (fun _ _ _ h => h) (fun h => absurd (h.symm.trans (by kernel_rfl : _ = true)) (by decide)) (fun w' => ?_) ?_
          rotate_left
          · unfold bareOp
            go_simp
            try with_reducible rfl
          simp only [Act.put, List.setIfInBounds_toArray, List.set_cons_zero, List.set_cons_succ]
          refine wpAnyB_only (i := 10) (some 14) (Op.alloc 26) 0 ⟨_, rfl, rfl, rfl, rfl, rfl⟩ (by kernel_rfl) (fun K hK => ?_)
          unfold bareOp
          go_wp2_with fail
          have lt_g := F_g.out.lt
          replace F_g := Lib.hid (F_g.out.alloc (.cells #[.int .u64 0, .int .u64 0, .int .u64 0] 26))
          have lt_r := F_r.out.lt
          replace F_r := Lib.hid (F_r.out.alloc (.cells #[.int .u64 0, .int .u64 0, .int .u64 0] 26))
          have F_p := Lib.hid (show Arr .u64 (w22.alloc (.cells #[.int .u64 0, .int .u64 0, .int .u64 0] 26)) w22.heap.size [0, 0, 0] from Arr.new .u64 w22 [0, 0, 0] _ _ rfl)
          have hle := HBW.out.size
          have hbl : w.heap.size + 2 ≤ w22.heap.size := lt_r
          replace HBW := Lib.hid (HBW.out.alloc HBW.out.size (.cells #[.int .u64 0, .int .u64 0, .int .u64 0] 26))
          replace hS := F_g.out.s
          generalize w22.alloc (.cells #[.int .u64 0, .int .u64 0, .int .u64 0] 26) = w23 at F_p HBW hS F_g F_r ⊢
          refine hK.out _ _ (fun h => absurd (h.symm.trans (by kernel_rfl : _ = true)) (by decide)) ?_
          clear hK K
          try simp only [Act.put, List.setIfInBounds_toArray, List.set_cons_zero, List.set_cons_succ]
          refine wpAnyB_only (i := 11) none (Op.store 26 (Operand.tmp 14) (Operand.tmp 44)) 0 ⟨_, rfl, rfl, rfl, rfl, rfl⟩ (by kernel_rfl) (fun K hK => ?_)
          unfold bareOp
          obtain ⟨z0, z1, z2, z3, z4, z5⟩ := Arr.k3 F_p.out
          go_wp2_with fail
          clear z0 z1 z2 z3 z4 z5
          have hbS := ((((Below.refl w22.heap.size w23).setCell (p := ⟨w22.heap.size, 0, none⟩) (Nat.le_refl _) (.int .u64 R)).setCell (p := ⟨w22.heap.size, 1, none⟩) (Nat.le_refl _) (.int .u64 S)).setCell (p := ⟨w22.heap.size, 2, none⟩) (Nat.le_refl _) (.int .u64 0))
          replace F_g := Lib.hid (F_g.out.under hbS lt_g)
          clear lt_g
          replace F_r := Lib.hid (F_r.out.under hbS lt_r)
          clear lt_r
          replace F_p := Lib.hid (F_p.out.st3 R S 0)
          replace HBW := Lib.hid (HBW.out.trans (hbS.mono hle))
          clear hbS hS
          refine hK.out _ _ (fun h => absurd (h.symm.trans (by kernel_rfl : _ = true)) (by decide)) ?_
          clear hK K
          try simp only [Act.put, List.setIfInBounds_toArray, List.set_cons_zero, List.set_cons_succ]
          refine wpAnyB_done (by kernel_rfl) ?_ _
          go_wp2_with fail
          go_meet
          case rel => exact ⟨_, rfl, ⟨F_g.out, F_r.out, F_p.out, hbl, HBW.out⟩⟩
        · skip
          unfold bareOp
          go_wp2_with fail
          have lt_g := F_g.out.lt
          replace F_g := Lib.hid (F_g.out.alloc (.cells #[.int .u64 0, .int .u64 0, .int .u64 0] 26))
          have lt_r := F_r.out.lt
          replace F_r := Lib.hid (F_r.out.alloc (.cells #[.int .u64 0, .int .u64 0, .int .u64 0] 26))
          have F_p := Lib.hid (show Arr .u64 (w21.alloc (.cells #[.int .u64 0, .int .u64 0, .int .u64 0] 26)) w21.heap.size [0, 0, 0] from Arr.new .u64 w21 [0, 0, 0] _ _ rfl)
          have hle := HBW.out.size
          have hbl : w.heap.size + 2 ≤ w21.heap.size := lt_r
          replace HBW := Lib.hid (HBW.out.alloc HBW.out.size (.cells #[.int .u64 0, .int .u64 0, .int .u64 0] 26))
          replace hS := F_g.out.s
          generalize w21.alloc (.cells #[.int .u64 0, .int .u64 0, .int .u64 0] 26) = w25 at F_p HBW hS F_g F_r ⊢
          refine hK.out _ _ (fun _ => hS) ?_
          clear hK K
          try simp only [Act.put, List.setIfInBounds_toArray, List.set_cons_zero, List.set_cons_succ]
          refine wpAnyB_only (i := 8) (some 43) (Op.call { callee := Callee.value (Operand.func 31), args := #[Operand.tmp 40, Operand.tmp 41, Operand.tmp 42], argTypes := #[24, 22, 22] }) 22 ⟨_, rfl, rfl, rfl, rfl, rfl⟩ (by kernel_rfl) (fun K hK => ?_)
          unfold bareOp
          go_wp2_with (go_at_call 31; refine (ppow_ok _ HH.out a0 aP UK.out HSK.out).mono ?_; rintro e w26 ⟨rfl, hb26⟩)
          replace F_g := Lib.hid (F_g.out.keep hb26)
          replace F_r := Lib.hid (F_r.out.keep hb26)
          replace F_p := Lib.hid (F_p.out.keep hb26)
          replace HBW := Lib.hid (HBW.out.trans (hb26.mono HBW.out.size))
          replace hS := F_g.out.s
          clear hb26
          refine hK.out _ _ (fun h => absurd (h.symm.trans (by kernel_rfl : _ = true)) (by decide)) ?_
          clear hK K
          try simp only [Act.put, List.setIfInBounds_toArray, List.set_cons_zero, List.set_cons_succ]
          refine wpAnyB_takeP (i := 9) (some 44) (Op.build 26 #[(0, Operand.tmp 39), (1, Operand.tmp 43)]) 26 (v := ?_) ⟨_, rfl, rfl, rfl, rfl, rfl⟩ (by kernel_rfl) (by kernel_rfl) (by kernel_rfl) (by kernel_rfl) (fun _ _ _ h => h) (fun h => absurd (h.symm.trans (by kernel_rfl : _ = true)) (by decide)) (fun w' => ?_) ?_
          rotate_left
          · unfold bareOp
            go_simp
            try with_reducible rfl
          simp only [Act.put, List.setIfInBounds_toArray, List.set_cons_zero, List.set_cons_succ]
          refine wpAnyB_only (i := 11) none (Op.store 26 (Operand.tmp 14) (Operand.tmp 44)) 0 ⟨_, rfl, rfl, rfl, rfl, rfl⟩ (by kernel_rfl) (fun K hK => ?_)
          unfold bareOp
          obtain ⟨z0, z1, z2, z3, z4, z5⟩ := Arr.k3 F_p.out
          go_wp2_with fail
          clear z0 z1 z2 z3 z4 z5
          have hbS := ((((Below.refl w21.heap.size w26).setCell (p := ⟨w21.heap.size, 0, none⟩) (Nat.le_refl _) (.int .u64 R)).setCell (p := ⟨w21.heap.size, 1, none⟩) (Nat.le_refl _) (.int .u64 S)).setCell (p := ⟨w21.heap.size, 2, none⟩) (Nat.le_refl _) (.int .u64 0))
          replace F_g := Lib.hid (F_g.out.under hbS lt_g)
          clear lt_g
          replace F_r := Lib.hid (F_r.out.under hbS lt_r)
          clear lt_r
          replace F_p := Lib.hid (F_p.out.st3 R S 0)
          replace HBW := Lib.hid (HBW.out.trans (hbS.mono hle))
          clear hbS hS
          refine hK.out _ _ (fun h => absurd (h.symm.trans (by kernel_rfl : _ = true)) (by decide)) ?_
          clear hK K
          try simp only [Act.put, List.setIfInBounds_toArray, List.set_cons_zero, List.set_cons_succ]
          refine wpAnyB_done (by kernel_rfl) ?_ _
          go_wp2_with fail
          go_meet
          case rel => exact ⟨_, rfl, ⟨F_g.out, F_r.out, F_p.out, hbl, HBW.out⟩⟩
      · skip
        unfold bareOp
        go_wp2_with fail
        have lt_g := F_g.out.lt
        replace F_g := Lib.hid (F_g.out.alloc (.cells #[.int .u64 0, .int .u64 0, .int .u64 0] 26))
        have lt_r := F_r.out.lt
        replace F_r := Lib.hid (F_r.out.alloc (.cells #[.int .u64 0, .int .u64 0, .int .u64 0] 26))
        have F_p := Lib.hid (show Arr .u64 (wd7.alloc (.cells #[.int .u64 0, .int .u64 0, .int .u64 0] 26)) wd7.heap.size [0, 0, 0] from Arr.new .u64 wd7 [0, 0, 0] _ _ rfl)
        have hle := HBW.out.size
        have hbl : w.heap.size + 2 ≤ wd7.heap.size := lt_r
        replace HBW := Lib.hid (HBW.out.alloc HBW.out.size (.cells #[.int .u64 0, .int .u64 0, .int .u64 0] 26))
        replace hS := F_g.out.s
        generalize wd7.alloc (.cells #[.int .u64 0, .int .u64 0, .int .u64 0] 26) = w28 at F_p HBW hS F_g F_r ⊢
        refine hK.out _ _ (fun _ => hS) ?_
        clear hK K
        try simp only [Act.put, List.setIfInBounds_toArray, List.set_cons_zero, List.set_cons_succ]
        refine wpAnyB_only (i := 4) (some 39) (Op.call { callee := Callee.value (Operand.func 31), args := #[Operand.tmp 35, Operand.tmp 37, Operand.tmp 38], argTypes := #[24, 22, 22] }) 22 ⟨_, rfl, rfl, rfl, rfl, rfl⟩ (by kernel_rfl) (fun K hK => ?_)
        unfold bareOp
        go_wp2_with (go_at_call 31; refine (ppow_ok _ HH.out hG gP UK.out HRK.out).mono ?_; rintro e w29 ⟨rfl, hb29⟩)
        replace F_g := Lib.hid (F_g.out.keep hb29)
        replace F_r := Lib.hid (F_r.out.keep hb29)
        replace F_p := Lib.hid (F_p.out.keep hb29)
        replace HBW := Lib.hid (HBW.out.trans (hb29.mono HBW.out.size))
        replace hS := F_g.out.s
        clear hb29
        refine hK.out _ _ (fun _ => hS) ?_
        clear hK K
        try simp only [Act.put, List.setIfInBounds_toArray, List.set_cons_zero, List.set_cons_succ]
        refine wpAnyB_only (i := 8) (some 43) (Op.call { callee := Callee.value (Operand.func 31), args := #[Operand.tmp 40, Operand.tmp 41, Operand.tmp 42], argTypes := #[24, 22, 22] }) 22 ⟨_, rfl, rfl, rfl, rfl, rfl⟩ (by kernel_rfl) (fun K hK => ?_)
        unfold bareOp
        go_wp2_with (go_at_call 31; refine (ppow_ok _ HH.out a0 aP UK.out HSK.out).mono ?_; rintro e w30 ⟨rfl, hb30⟩)
        replace F_g := Lib.hid (F_g.out.keep hb30)
        replace F_r := Lib.hid (F_r.out.keep hb30)
        replace F_p := Lib.hid (F_p.out.keep hb30)
        replace HBW := Lib.hid (HBW.out.trans (hb30.mono HBW.out.size))
        replace hS := F_g.out.s
        clear hb30
        refine hK.out _ _ (fun h => absurd (h.symm.trans (by kernel_rfl : _ = true)) (by decide)) ?_
        clear hK K
        try simp only [Act.put, List.setIfInBounds_toArray, List.set_cons_zero, List.set_cons_succ]
        refine wpAnyB_takeP (i := 9) (some 44) (Op.build 26 #[(0, Operand.tmp 39), (1, Operand.tmp 43)]) 26 (v := ?_) ⟨_, rfl, rfl, rfl, rfl, rfl⟩ (by kernel_rfl) (by kernel_rfl) (by kernel_rfl) (by kernel_rfl) (fun _ _ _ h => h) (fun h => absurd (h.symm.trans (by kernel_rfl : _ = true)) (by decide)) (fun w' => ?_) ?_
        rotate_left
        · unfold bareOp
          go_simp
          try with_reducible rfl
        simp only [Act.put, List.setIfInBounds_toArray, List.set_cons_zero, List.set_cons_succ]
        refine wpAnyB_only (i := 11) none (Op.store 26 (Operand.tmp 14) (Operand.tmp 44)) 0 ⟨_, rfl, rfl, rfl, rfl, rfl⟩ (by kernel_rfl) (fun K hK => ?_)
        unfold bareOp
        obtain ⟨z0, z1, z2, z3, z4, z5⟩ := Arr.k3 F_p.out
        go_wp2_with fail
        clear z0 z1 z2 z3 z4 z5
        have hbS := ((((Below.refl wd7.heap.size w30).setCell (p := ⟨wd7.heap.size, 0, none⟩) (Nat.le_refl _) (.int .u64 R)).setCell (p := ⟨wd7.heap.size, 1, none⟩) (Nat.le_refl _) (.int .u64 S)).setCell (p := ⟨wd7.heap.size, 2, none⟩) (Nat.le_refl _) (.int .u64 0))
        replace F_g := Lib.hid (F_g.out.under hbS lt_g)
        clear lt_g
        replace F_r := Lib.hid (F_r.out.under hbS lt_r)
        clear lt_r
        replace F_p := Lib.hid (F_p.out.st3 R S 0)
        replace HBW := Lib.hid (HBW.out.trans (hbS.mono hle))
        clear hbS hS
        refine hK.out _ _ (fun h => absurd (h.symm.trans (by kernel_rfl : _ = true)) (by decide)) ?_
        clear hK K
        try simp only [Act.put, List.setIfInBounds_toArray, List.set_cons_zero, List.set_cons_succ]
        refine wpAnyB_done (by kernel_rfl) ?_ _
        go_wp2_with fail
        go_meet
        case rel => exact ⟨_, rfl, ⟨F_g.out, F_r.out, F_p.out, hbl, HBW.out⟩⟩
    case rest =>
      clear F_g F_r HBW
      obtain ⟨Bp, rfl, HE⟩ := hcut
      have F_g := Lib.hid HE.out.g
      have F_r := Lib.hid HE.out.r
      have F_p := Lib.hid HE.out.p
      have HBW := Lib.hid HE.out.bel
      have hne := HE.out.ne
      clear HE
      obtain ⟨q1_0, q1_1, q1_2, q1_3, q1_4, q1_5⟩ := Arr.k3 F_r.out
      obtain ⟨q2_0, q2_1, q2_2, q2_3, q2_4, q2_5⟩ := Arr.k3 F_p.out
      obtain ⟨x0a, x0b, x0c, -⟩ := id F_g.out
      go_wp2_with fail
      clear x0a x0b x0c q1_0 q1_1 q1_2 q1_3 q1_4 q1_5 q2_0 q2_1 q2_2 q2_3 q2_4 q2_5
      replace F_g := Lib.hid F_g.out.drew
      replace F_r := Lib.hid F_r.out.drew
      replace F_p := Lib.hid F_p.out.drew
      replace HBW := Lib.hid HBW.out.drew
      have hS := And.intro F_g.out.s F_p.out.s3
      refine wp_region_stage 17 (fun w' => SBox w' w.heap.size P Q G ∧ S3 w' Bp R S 0) (by kernel_rfl) ?_
      refine wpAnyB_take (i := 0) (some 45) (Op.load 24 (Operand.tmp 5)) 24 (v := ?_) ⟨_, rfl, rfl, rfl, rfl, rfl⟩ (by kernel_rfl) (by kernel_rfl) (by kernel_rfl) [17] (by kernel_rfl) (fun _ _ _ h => h) hS (fun w' hSw => ?_) ?_
      rotate_left
      · obtain ⟨⟨s0, s1, s2⟩, ⟨s3, s4, s5⟩⟩ := hSw
        unfold bareOp
        go_simp
        try with_reducible rfl
      simp only [Act.put, List.setIfInBounds_toArray, List.set_cons_zero, List.set_cons_succ]
      refine wpAnyB_takeP (i := 1) (some 46) (Op.move (Operand.tmp 4)) 27 (v := ?_) ⟨_, rfl, rfl, rfl, rfl, rfl⟩ (by kernel_rfl) (by kernel_rfl) (by kernel_rfl) (by kernel_rfl) (fun _ _ _ h => h) (fun _ => hS) (fun w' => ?_) ?_
      rotate_left
      · unfold bareOp
        go_simp
        try with_reducible rfl
      simp only [Act.put, List.setIfInBounds_toArray, List.set_cons_zero, List.set_cons_succ]
      refine wpAnyB_take (i := 2) (some 47) (Op.load 24 (Operand.tmp 5)) 24 (v := ?_) ⟨_, rfl, rfl, rfl, rfl, rfl⟩ (by kernel_rfl) (by kernel_rfl) (by kernel_rfl) [6, 11, 16, 17] (by kernel_rfl) (fun _ _ _ h => h) hS (fun w' hSw => ?_) ?_
      rotate_left
      · obtain ⟨⟨s0, s1, s2⟩, ⟨s3, s4, s5⟩⟩ := hSw
        unfold bareOp
        go_simp
        try with_reducible rfl
      simp only [Act.put, List.setIfInBounds_toArray, List.set_cons_zero, List.set_cons_succ]
      refine wpAnyB_takeP (i := 3) (some 48) (Op.fieldAddr 24 (Operand.tmp 5) 2) 0 (v := ?_) ⟨_, rfl, rfl, rfl, rfl, rfl⟩ (by kernel_rfl) (by kernel_rfl) (by kernel_rfl) (by kernel_rfl) (fun _ _ _ h => h) (fun _ => hS) (fun w' => ?_) ?_
      rotate_left
      · unfold bareOp
        go_simp
        try with_reducible rfl
      simp only [Act.put, List.setIfInBounds_toArray, List.set_cons_zero, List.set_cons_succ]
      refine wpAnyB_take (i := 4) (some 49) (Op.load 22 (Operand.tmp 48)) 22 (v := ?_) ⟨_, rfl, rfl, rfl, rfl, rfl⟩ (by kernel_rfl) (by kernel_rfl) (by kernel_rfl) [6, 11, 16, 17] (by kernel_rfl) (fun _ _ _ h => h) hS (fun w' hSw => ?_) ?_
      rotate_left
      · obtain ⟨⟨s0, s1, s2⟩, ⟨s3, s4, s5⟩⟩ := hSw
        unfold bareOp
        go_simp
        try with_reducible rfl
      simp only [Act.put, List.setIfInBounds_toArray, List.set_cons_zero, List.set_cons_succ]
      refine wpAnyB_takeP (i := 5) (some 50) (Op.move (Operand.tmp 2)) 22 (v := ?_) ⟨_, rfl, rfl, rfl, rfl, rfl⟩ (by kernel_rfl) (by kernel_rfl) (by kernel_rfl) (by kernel_rfl) (fun _ _ _ h => h) (fun _ => hS) (fun w' => ?_) ?_
      rotate_left
      · unfold bareOp
        go_simp
        try with_reducible rfl
      simp only [Act.put, List.setIfInBounds_toArray, List.set_cons_zero, List.set_cons_succ]
      refine wpAnyB_takeP (i := 7) (some 52) (Op.move (Operand.tmp 1)) 22 (v := ?_) ⟨_, rfl, rfl, rfl, rfl, rfl⟩ (by kernel_rfl) (by kernel_rfl) (by kernel_rfl) (by kernel_rfl) (fun _ _ _ h => h) (fun _ => hS) (fun w' => ?_) ?_
      rotate_left
      · unfold bareOp
        go_simp
        try with_reducible rfl
      simp only [Act.put, List.setIfInBounds_toArray, List.set_cons_zero, List.set_cons_succ]
      refine wpAnyB_take (i := 8) (some 53) (Op.load 24 (Operand.tmp 5)) 24 (v := ?_) ⟨_, rfl, rfl, rfl, rfl, rfl⟩ (by kernel_rfl) (by kernel_rfl) (by kernel_rfl) [11, 16, 17] (by kernel_rfl) (fun _ _ _ h => h) hS (fun w' hSw => ?_) ?_
      rotate_left
      · obtain ⟨⟨s0, s1, s2⟩, ⟨s3, s4, s5⟩⟩ := hSw
        unfold bareOp
        go_simp
        try with_reducible rfl
      simp only [Act.put, List.setIfInBounds_toArray, List.set_cons_zero, List.set_cons_succ]
      refine wpAnyB_takeP (i := 9) (some 54) (Op.move (Operand.tmp 1)) 22 (v := ?_) ⟨_, rfl, rfl, rfl, rfl, rfl⟩ (by kernel_rfl) (by kernel_rfl) (by kernel_rfl) (by kernel_rfl) (fun _ _ _ h => h) (fun _ => hS) (fun w' => ?_) ?_
      rotate_left
      · unfold bareOp
        go_simp
        try with_reducible rfl
      simp only [Act.put, List.setIfInBounds_toArray, List.set_cons_zero, List.set_cons_succ]
      refine wpAnyB_takeP (i := 10) (some 55) (Op.move (Operand.tmp 2)) 22 (v := ?_) ⟨_, rfl, rfl, rfl, rfl, rfl⟩ (by kernel_rfl) (by kernel_rfl) (by kernel_rfl) (by kernel_rfl) (fun _ _ _ h => h) (fun _ => hS) (fun w' => ?_) ?_
      rotate_left
      · unfold bareOp
        go_simp
        try with_reducible rfl
      simp only [Act.put, List.setIfInBounds_toArray, List.set_cons_zero, List.set_cons_succ]
      refine wpAnyB_takeP (i := 12) (some 57) (Op.fieldAddr 26 (Operand.tmp 14) 0) 0 (v := ?_) ⟨_, rfl, rfl, rfl, rfl, rfl⟩ (by kernel_rfl) (by kernel_rfl) (by kernel_rfl) (by kernel_rfl) (fun _ _ _ h => h) (fun _ => hS) (fun w' => ?_) ?_
      rotate_left
      · unfold bareOp
        go_simp
        try with_reducible rfl
      simp only [Act.put, List.setIfInBounds_toArray, List.set_cons_zero, List.set_cons_succ]
      refine wpAnyB_take (i := 13) (some 58) (Op.load 22 (Operand.tmp 57)) 22 (v := ?_) ⟨_, rfl, rfl, rfl, rfl, rfl⟩ (by kernel_rfl) (by kernel_rfl) (by kernel_rfl) [16, 17] (by kernel_rfl) (fun _ _ _ h => h) hS (fun w' hSw => ?_) ?_
      rotate_left
      · obtain ⟨⟨s0, s1, s2⟩, ⟨s3, s4, s5⟩⟩ := hSw
        unfold bareOp
        go_simp
        try with_reducible rfl
      simp only [Act.put, List.setIfInBounds_toArray, List.set_cons_zero, List.set_cons_succ]
      refine wpAnyB_takeP (i := 14) (some 59) (Op.fieldAddr 26 (Operand.tmp 14) 1) 0 (v := ?_) ⟨_, rfl, rfl, rfl, rfl, rfl⟩ (by kernel_rfl) (by kernel_rfl) (by kernel_rfl) (by kernel_rfl) (fun _ _ _ h => h) (fun _ => hS) (fun w' => ?_) ?_
      rotate_left
      · unfold bareOp
        go_simp
        try with_reducible rfl
      simp only [Act.put, List.setIfInBounds_toArray, List.set_cons_zero, List.set_cons_succ]
      refine wpAnyB_take (i := 15) (some 60) (Op.load 22 (Operand.tmp 59)) 22 (v := ?_) ⟨_, rfl, rfl, rfl, rfl, rfl⟩ (by kernel_rfl) (by kernel_rfl) (by kernel_rfl) [16, 17] (by kernel_rfl) (fun _ _ _ h => h) hS (fun w' hSw => ?_) ?_
      rotate_left
      · obtain ⟨⟨s0, s1, s2⟩, ⟨s3, s4, s5⟩⟩ := hSw
        unfold bareOp
        go_simp
        try with_reducible rfl
      simp only [Act.put, List.setIfInBounds_toArray, List.set_cons_zero, List.set_cons_succ]
      refine wpAnyB_only (i := 6) (some 51) (Op.call { callee := Callee.value (Operand.func 31), args := #[Operand.tmp 47, Operand.tmp 49, Operand.tmp 50], argTypes := #[24, 22, 22] }) 22 ⟨_, rfl, rfl, rfl, rfl, rfl⟩ (by kernel_rfl) (fun K hK => ?_)
      unfold bareOp
      go_wp2_with (go_at_call 31; refine (ppow_ok _ HH.out hG gP UX.out HY.out).mono ?_; rintro e w41 ⟨rfl, hb41⟩)
      replace F_g := Lib.hid (F_g.out.keep hb41)
      replace F_r := Lib.hid (F_r.out.keep hb41)
      replace F_p := Lib.hid (F_p.out.keep hb41)
      replace HBW := Lib.hid (HBW.out.trans (hb41.mono HBW.out.size))
      replace hS := And.intro F_g.out.s F_p.out.s3
      clear hb41
      refine hK.out _ _ (fun _ => hS) ?_
      clear hK K
      try simp only [Act.put, List.setIfInBounds_toArray, List.set_cons_zero, List.set_cons_succ]
      refine wpAnyB_only (i := 11) (some 56) (Op.call { callee := Callee.value (Operand.func 31), args := #[Operand.tmp 53, Operand.tmp 54, Operand.tmp 55], argTypes := #[24, 22, 22] }) 22 ⟨_, rfl, rfl, rfl, rfl, rfl⟩ (by kernel_rfl) (fun K hK => ?_)
      unfold bareOp
      go_wp2_with (go_at_call 31; refine (ppow_ok _ HH.out a0 aP UX.out HD_.out).mono ?_; rintro e w42 ⟨rfl, hb42⟩)
      replace F_g := Lib.hid (F_g.out.keep hb42)
      replace F_r := Lib.hid (F_r.out.keep hb42)
      replace F_p := Lib.hid (F_p.out.keep hb42)
      replace HBW := Lib.hid (HBW.out.trans (hb42.mono HBW.out.size))
      replace hS := And.intro F_g.out.s F_p.out.s3
      clear hb42
      refine hK.out _ _ (fun _ => hS) ?_
      clear hK K
      try simp only [Act.put, List.setIfInBounds_toArray, List.set_cons_zero, List.set_cons_succ]
      refine wpAnyB_only (i := 16) (some 61) (Op.buildSlice 42 5 #[(0, Operand.tmp 51), (1, Operand.tmp 52), (2, Operand.tmp 56), (3, Operand.tmp 58), (4, Operand.tmp 60)]) 42 ⟨_, rfl, rfl, rfl, rfl, rfl⟩ (by kernel_rfl) (fun K hK => ?_)
      unfold bareOp
      go_wp2_with fail
      have F_ms := Lib.hid (ShL.laid w42 [y, a, d, R, S] _ 22 _ 5 5 rfl rfl rfl)
      replace F_g := Lib.hid (F_g.out.alloc (.cells #[.int .u64 y, .int .u64 a, .int .u64 d, .int .u64 R, .int .u64 S] 22))
      replace F_r := Lib.hid (F_r.out.alloc (.cells #[.int .u64 y, .int .u64 a, .int .u64 d, .int .u64 R, .int .u64 S] 22))
      replace F_p := Lib.hid (F_p.out.alloc (.cells #[.int .u64 y, .int .u64 a, .int .u64 d, .int .u64 R, .int .u64 S] 22))
      replace HBW := Lib.hid (HBW.out.alloc HBW.out.size (.cells #[.int .u64 y, .int .u64 a, .int .u64 d, .int .u64 R, .int .u64 S] 22))
      replace hS := And.intro F_g.out.s F_p.out.s3
      refine hK.out _ _ (fun _ => hS) ?_
      clear hK K
      try simp only [Act.put, List.setIfInBounds_toArray, List.set_cons_zero, List.set_cons_succ]
      refine wpAnyB_only (i := 17) (some 62) (Op.call { callee := Callee.value (Operand.func 32), args := #[Operand.tmp 45, Operand.tmp 46, Operand.tmp 61], argTypes := #[24, 27, 42] }) 22 ⟨_, rfl, rfl, rfl, rfl, rfl⟩ (by kernel_rfl) (fun K hK => ?_)
      unfold bareOp
      go_wp2_with (go_at_call 32; refine (pchallenge_any _ (HT.out.keep HBW.out) HH.out F_ms.out HUS.out (by simp) hn8 HCC.out).mono ?_; rintro e w43 ⟨rfl, hb43⟩)
      replace F_g := Lib.hid (F_g.out.keep hb43)
      replace F_r := Lib.hid (F_r.out.keep hb43)
      replace F_p := Lib.hid (F_p.out.keep hb43)
      replace F_ms := Lib.hid (F_ms.out.keep hb43)
      replace HBW := Lib.hid (HBW.out.trans (hb43.mono HBW.out.size))
      replace hS := And.intro F_g.out.s F_p.out.s3
      clear hb43
      refine hK.out _ _ (fun h => absurd (h.symm.trans (by kernel_rfl : _ = true)) (by decide)) ?_
      clear hK K
      try simp only [Act.put, List.setIfInBounds_toArray, List.set_cons_zero, List.set_cons_succ]
      refine wpAnyB_takeP (i := 18) (some 15) (Op.assign (Operand.tmp 62)) 22 (v := ?_) ⟨_, rfl, rfl, rfl, rfl, rfl⟩ (by kernel_rfl) (by kernel_rfl) (by kernel_rfl) (by kernel_rfl) (fun _ _ _ h => h) (fun h => absurd (h.symm.trans (by kernel_rfl : _ = true)) (by decide)) (fun w' => ?_) ?_
      rotate_left
      · unfold bareOp
        go_simp
        try with_reducible rfl
      simp only [Act.put, List.setIfInBounds_toArray, List.set_cons_zero, List.set_cons_succ]
      refine wpAnyB_done (by kernel_rfl) ?_ _
      clear F_ms
      obtain ⟨q1_0, q1_1, q1_2, q1_3, q1_4, q1_5⟩ := Arr.k3 F_r.out
      obtain ⟨q2_0, q2_1, q2_2, q2_3, q2_4, q2_5⟩ := Arr.k3 F_p.out
      obtain ⟨x0a, x0b, x0c, -⟩ := id F_g.out
      go_wp2_with fail
      clear x0a x0b x0c q1_0 q1_1 q1_2 q1_3 q1_4 q1_5 q2_0 q2_1 q2_2 q2_3 q2_4 q2_5
      refine (srespond_any (v := Z) (r := 0) _ hP hQ hG x0 k0 h0 HZS.out).mono ?_
      rintro e w44 ⟨rfl, hb44⟩
      replace F_g := Lib.hid (F_g.out.keep hb44)
      replace F_r := Lib.hid (F_r.out.keep hb44)
      replace F_p := Lib.hid (F_p.out.keep hb44)
      replace HBW := Lib.hid (HBW.out.trans (hb44.mono HBW.out.size))
      clear hb44
      obtain ⟨q1_0, q1_1, q1_2, q1_3, q1_4, q1_5⟩ := Arr.k3 F_r.out
      obtain ⟨q2_0, q2_1, q2_2, q2_3, q2_4, q2_5⟩ := Arr.k3 F_p.out
      obtain ⟨x0a, x0b, x0c, -⟩ := id F_g.out
      go_wp2_with fail
      clear x0a x0b x0c q1_0 q1_1 q1_2 q1_3 q1_4 q1_5 q2_0 q2_1 q2_2 q2_3 q2_4 q2_5
      have hr2 : w.heap.size + 1 ≠ Bp := by omega
      exact bodyPost_ret (res_eq rfl ((F_r.out.far (Ne.symm hr2) (.int .u64 Z)).st3 R S Z) _ rfl rfl) rfl ⟨rfl, (((HBW.out.setCell (show w.heap.size ≤ Bp by omega) _).setCell (by simp <;> omega) _).setCell (by simp <;> omega) _).setCell (by simp <;> omega) _⟩
  · by_cases ha : askS P Q G [x, k] [a] = 0
    · have hn8 := lgS_long ha h
      obtain rfl : c = 4 := by rw [hc]; exact lgS_four ha hn8
      have HR := Lib.hid ha
      have HLG := Lib.hid (show lgS 0 n = 4 from lgS_four rfl hn8)
      clear h hc ha
      have F_g := Lib.hid (show Boxed ((((w.alloc (.cells #[.int .u64 P, .int .u64 Q, .int .u64 G] 24)).alloc (.cells #[.int .u64 0, .int .u64 0, .int .u64 0] 26)).alloc (.cells #[.int .u64 x, .int .u64 k] 22)).alloc (.cells #[.int .u64 a] 22)) (w.heap.size) P Q G from (((Boxed.at _ P Q G _ (w.heap.size) (by simp)).alloc _).alloc _).alloc _)
      have F_es := Lib.hid (show ShL ((((w.alloc (.cells #[.int .u64 P, .int .u64 Q, .int .u64 G] 24)).alloc (.cells #[.int .u64 0, .int .u64 0, .int .u64 0] 26)).alloc (.cells #[.int .u64 x, .int .u64 k] 22)).alloc (.cells #[.int .u64 a] 22)) (some ⟨w.heap.size + 1 + 1, 0, none⟩) 2 2 [x, k] from (ShL.laid _ [x, k] _ _ (w.heap.size + 1 + 1) _ _ (by simp) rfl rfl).alloc _)
      have F_ns := Lib.hid (show ShL ((((w.alloc (.cells #[.int .u64 P, .int .u64 Q, .int .u64 G] 24)).alloc (.cells #[.int .u64 0, .int .u64 0, .int .u64 0] 26)).alloc (.cells #[.int .u64 x, .int .u64 k] 22)).alloc (.cells #[.int .u64 a] 22)) (some ⟨w.heap.size + 1 + 1 + 1, 0, none⟩) 1 1 [a] from ShL.laid _ [a] _ _ (w.heap.size + 1 + 1 + 1) _ _ (by simp) rfl rfl)
      have F_r := Lib.hid (show Arr .u64 ((((w.alloc (.cells #[.int .u64 P, .int .u64 Q, .int .u64 G] 24)).alloc (.cells #[.int .u64 0, .int .u64 0, .int .u64 0] 26)).alloc (.cells #[.int .u64 x, .int .u64 k] 22)).alloc (.cells #[.int .u64 a] 22)) (w.heap.size + 1) [0, 0, 0] from ((Arr.new .u64 _ [0, 0, 0] _ (w.heap.size + 1) (by simp)).alloc _).alloc _)
      have HBW := Lib.hid (show Below w.heap.size w ((((w.alloc (.cells #[.int .u64 P, .int .u64 Q, .int .u64 G] 24)).alloc (.cells #[.int .u64 0, .int .u64 0, .int .u64 0] 26)).alloc (.cells #[.int .u64 x, .int .u64 k] 22)).alloc (.cells #[.int .u64 a] 22)) from ((((Below.refl _ _).alloc (by simp <;> omega) _).alloc (by simp <;> omega) _).alloc (by simp <;> omega) _).alloc (by simp <;> omega) _)
      go_enter Tryd.func10, Tryd.ntmps10
      obtain ⟨q1_0, q1_1, q1_2, q1_3, q1_4, q1_5⟩ := Arr.k3 F_r.out
      obtain ⟨x0a, x0b, x0c, -⟩ := id F_g.out
      go_wp2_with fail
      clear x0a x0b x0c q1_0 q1_1 q1_2 q1_3 q1_4 q1_5
      refine (pcheck_any _ hP hQ hG F_es.out F_ns.out (by simp) (by simp) HR.out).mono ?_
      rintro e w1 ⟨rfl, hb1⟩
      replace F_g := Lib.hid (F_g.out.keep hb1)
      replace F_r := Lib.hid (F_r.out.keep hb1)
      replace F_es := Lib.hid (F_es.out.keep hb1)
      replace F_ns := Lib.hid (F_ns.out.keep hb1)
      replace HBW := Lib.hid (HBW.out.trans (hb1.mono HBW.out.size))
      clear hb1
      clear F_es
      clear F_ns
      obtain ⟨q1_0, q1_1, q1_2, q1_3, q1_4, q1_5⟩ := Arr.k3 F_r.out
      obtain ⟨x0a, x0b, x0c, -⟩ := id F_g.out
      go_wp2_with fail
      clear x0a x0b x0c q1_0 q1_1 q1_2 q1_3 q1_4 q1_5
      refine (plong_any _ HLG.out).mono ?_
      rintro e w2 ⟨rfl, rfl⟩
      obtain ⟨q1_0, q1_1, q1_2, q1_3, q1_4, q1_5⟩ := Arr.k3 F_r.out
      obtain ⟨x0a, x0b, x0c, -⟩ := id F_g.out
      go_wp2_with fail
      exact bodyPost_ret (res_eq rfl (F_r.out.st3 0 0 0) _ rfl rfl) rfl ⟨rfl, (((HBW.out).setCell (by simp <;> omega) _).setCell (by simp <;> omega) _).setCell (by simp <;> omega) _⟩
    · have hc' : c = askS P Q G [x, k] [a] := by rw [hc]; exact lgS_ne ha
      have hnc : c ≠ 0 := by rw [hc']; exact ha
      have hn1 : (c != 0) = true := by simpa using hnc
      have hn2 : (c == 0) = false := by simpa using hnc
      have HR := Lib.hid hc'.symm
      clear h hc ha hc' hnc
      have F_g := Lib.hid (show Boxed ((((w.alloc (.cells #[.int .u64 P, .int .u64 Q, .int .u64 G] 24)).alloc (.cells #[.int .u64 0, .int .u64 0, .int .u64 0] 26)).alloc (.cells #[.int .u64 x, .int .u64 k] 22)).alloc (.cells #[.int .u64 a] 22)) (w.heap.size) P Q G from (((Boxed.at _ P Q G _ (w.heap.size) (by simp)).alloc _).alloc _).alloc _)
      have F_es := Lib.hid (show ShL ((((w.alloc (.cells #[.int .u64 P, .int .u64 Q, .int .u64 G] 24)).alloc (.cells #[.int .u64 0, .int .u64 0, .int .u64 0] 26)).alloc (.cells #[.int .u64 x, .int .u64 k] 22)).alloc (.cells #[.int .u64 a] 22)) (some ⟨w.heap.size + 1 + 1, 0, none⟩) 2 2 [x, k] from (ShL.laid _ [x, k] _ _ (w.heap.size + 1 + 1) _ _ (by simp) rfl rfl).alloc _)
      have F_ns := Lib.hid (show ShL ((((w.alloc (.cells #[.int .u64 P, .int .u64 Q, .int .u64 G] 24)).alloc (.cells #[.int .u64 0, .int .u64 0, .int .u64 0] 26)).alloc (.cells #[.int .u64 x, .int .u64 k] 22)).alloc (.cells #[.int .u64 a] 22)) (some ⟨w.heap.size + 1 + 1 + 1, 0, none⟩) 1 1 [a] from ShL.laid _ [a] _ _ (w.heap.size + 1 + 1 + 1) _ _ (by simp) rfl rfl)
      have F_r := Lib.hid (show Arr .u64 ((((w.alloc (.cells #[.int .u64 P, .int .u64 Q, .int .u64 G] 24)).alloc (.cells #[.int .u64 0, .int .u64 0, .int .u64 0] 26)).alloc (.cells #[.int .u64 x, .int .u64 k] 22)).alloc (.cells #[.int .u64 a] 22)) (w.heap.size + 1) [0, 0, 0] from ((Arr.new .u64 _ [0, 0, 0] _ (w.heap.size + 1) (by simp)).alloc _).alloc _)
      have HBW := Lib.hid (show Below w.heap.size w ((((w.alloc (.cells #[.int .u64 P, .int .u64 Q, .int .u64 G] 24)).alloc (.cells #[.int .u64 0, .int .u64 0, .int .u64 0] 26)).alloc (.cells #[.int .u64 x, .int .u64 k] 22)).alloc (.cells #[.int .u64 a] 22)) from ((((Below.refl _ _).alloc (by simp <;> omega) _).alloc (by simp <;> omega) _).alloc (by simp <;> omega) _).alloc (by simp <;> omega) _)
      go_enter Tryd.func10, Tryd.ntmps10
      obtain ⟨q1_0, q1_1, q1_2, q1_3, q1_4, q1_5⟩ := Arr.k3 F_r.out
      obtain ⟨x0a, x0b, x0c, -⟩ := id F_g.out
      go_wp2_with fail
      clear x0a x0b x0c q1_0 q1_1 q1_2 q1_3 q1_4 q1_5
      refine (pcheck_any _ hP hQ hG F_es.out F_ns.out (by simp) (by simp) HR.out).mono ?_
      rintro e w1 ⟨rfl, hb1⟩
      replace F_g := Lib.hid (F_g.out.keep hb1)
      replace F_r := Lib.hid (F_r.out.keep hb1)
      replace F_es := Lib.hid (F_es.out.keep hb1)
      replace F_ns := Lib.hid (F_ns.out.keep hb1)
      replace HBW := Lib.hid (HBW.out.trans (hb1.mono HBW.out.size))
      clear hb1
      clear F_es
      clear F_ns
      obtain ⟨q1_0, q1_1, q1_2, q1_3, q1_4, q1_5⟩ := Arr.k3 F_r.out
      obtain ⟨x0a, x0b, x0c, -⟩ := id F_g.out
      go_wp2_with fail
      exact bodyPost_ret (res_eq rfl (F_r.out.st3 0 0 0) _ rfl rfl) rfl ⟨rfl, (((HBW.out).setCell (by simp <;> omega) _).setCell (by simp <;> omega) _).setCell (by simp <;> omega) _⟩
end Go.Proofs.YtmcpfinnhgbcpaaDoor
