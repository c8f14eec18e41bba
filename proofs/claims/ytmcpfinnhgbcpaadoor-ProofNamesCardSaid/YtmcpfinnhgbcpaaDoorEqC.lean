/- proof.EqualVerify; the reference's equality proofs. -/
import Derived.Test.YtmcpfinnhgbcpaaDoorEqB
import Derived.Test.YtmcpfinnhgbcpaaDoorEqC0
namespace Go.Proofs.YtmcpfinnhgbcpaaDoor
open Go Go.RowKit Num Sha
set_option linter.unusedSimpArgs false
set_option linter.unusedVariables false


set_option maxRecDepth 100000 in
set_option maxHeartbeats 4000000 in
theorem peqVerify_any {P Q G y a d R S Z e' : Int} {v : Bool} {tx : Option Addr} {n cp : Nat} {T : List Int} (w : World) (hT : Txt w tx n T) (hP : 0 ≤ P) (hQ : 0 ≤ Q) (hG : 0 ≤ G) (y0 : 0 ≤ y) (a0 : 0 ≤ a) (d0 : 0 ≤ d) (R0 : 0 ≤ R) (S0 : 0 ≤ S) (Z0 : 0 ≤ Z) (hn : n ≤ 8100) (h : RetB (lgS (askS P Q G [Z] [y, a, d, R, S]) n) (evP P Q G y a d R S Z T) v e') :
    Calls Tryd.prog 14 #[.agg #[.int .u64 P, .int .u64 Q, .int .u64 G], .int .u64 y, .int .u64 a, .int .u64 d, .agg #[.int .u64 R, .int .u64 S, .int .u64 Z], .slice tx n cp] w fun e w' => e = .returned (.tuple #[.bool v, .int .i64 e']) ∧ Below w.heap.size w w' := by
  have HT := Lib.hid hT
  clear hT
  rcases h with ⟨h, hv, rfl⟩ | ⟨h, rfl, hc⟩
  · obtain ⟨h, hn8⟩ := lgS_zero h
    obtain ⟨hH, he, hnn⟩ := askS_zero h
    have HR := Lib.hid h
    have HV := Lib.hid hv
    have HLG := Lib.hid (show lgS 0 n = 0 from lgS_ok rfl hn8)
    have ZQ := he Z (by simp)
    have yP := hnn y (by simp)
    have aP := hnn a (by simp)
    have dP := hnn d (by simp)
    have RP := hnn R (by simp)
    have SP := hnn S (by simp)
    clear h hv he hnn
    obtain ⟨p5, p3, hQ', pq, g2, gP⟩ := id hH
    have hP1 : 1 ≤ P := by omega
    have hGM : G < 2147483648 := by omega
    have q3 : Q < 1073741824 := by omega
    have q2 : 2 ≤ Q := by omega
    have HH := Lib.hid hH
    clear hH pq
    have HRG := Lib.hid (show ∀ z, z ∈ [y, a, d, R, S] → 0 ≤ z ∧ z < P from fun z hz => by
      simp at hz
      rcases hz with rfl | rfl | rfl | rfl | rfl <;> exact ⟨by assumption, by assumption⟩)
    have HUS := Lib.hid (show ∀ z, z ∈ [y, a, d, R, S] → U64 z from fun z hz => U64.of_lt (HRG.out z hz).1 (by have := (HRG.out z hz).2; omega))
    obtain ⟨h_, hh⟩ : ∃ h_, chV Q [y, a, d, R, S] T = h_ := ⟨_, rfl⟩
    obtain ⟨h0, hQQ⟩ : 0 ≤ h_ ∧ h_ < Q := by rw [← hh]; exact chV_range (by omega) _ _
    have HCC := Lib.hid hh
    have UH := Lib.hid (U64.of_lt h0 (by omega))
    have UZ := Lib.hid (U64.of_lt Z0 (by omega))
    clear hh
    by_cases hM : memsP P Q [y, a, d, R, S]
    case neg =>
      have HM := Lib.hid hM
      have HZ := Lib.hid (show false = v by rw [Bool.eq_iff_iff, HV.out]; exact ⟨fun h => (by cases h), fun h => absurd h.1 HM.out⟩)
      clear hM
      have F_g := Lib.hid (show Boxed ((((w.alloc (.cells #[.int .u64 P, .int .u64 Q, .int .u64 G] 24)).alloc (.cells #[.int .u64 R, .int .u64 S, .int .u64 Z] 26)).alloc (.cells #[.int .u64 Z] 22)).alloc (.cells #[.int .u64 y, .int .u64 a, .int .u64 d, .int .u64 R, .int .u64 S] 22)) (w.heap.size) P Q G from (((Boxed.at _ P Q G _ (w.heap.size) (by simp)).alloc _).alloc _).alloc _)
      have F_es := Lib.hid (show ShL ((((w.alloc (.cells #[.int .u64 P, .int .u64 Q, .int .u64 G] 24)).alloc (.cells #[.int .u64 R, .int .u64 S, .int .u64 Z] 26)).alloc (.cells #[.int .u64 Z] 22)).alloc (.cells #[.int .u64 y, .int .u64 a, .int .u64 d, .int .u64 R, .int .u64 S] 22)) (some ⟨w.heap.size + 1 + 1, 0, none⟩) 1 1 [Z] from (ShL.laid _ [Z] _ _ (w.heap.size + 1 + 1) _ _ (by simp) rfl rfl).alloc _)
      have F_ns := Lib.hid (show ShL ((((w.alloc (.cells #[.int .u64 P, .int .u64 Q, .int .u64 G] 24)).alloc (.cells #[.int .u64 R, .int .u64 S, .int .u64 Z] 26)).alloc (.cells #[.int .u64 Z] 22)).alloc (.cells #[.int .u64 y, .int .u64 a, .int .u64 d, .int .u64 R, .int .u64 S] 22)) (some ⟨w.heap.size + 1 + 1 + 1, 0, none⟩) 5 5 [y, a, d, R, S] from ShL.laid _ [y, a, d, R, S] _ _ (w.heap.size + 1 + 1 + 1) _ _ (by simp) rfl rfl)
      have F_p := Lib.hid (show Arr .u64 ((((w.alloc (.cells #[.int .u64 P, .int .u64 Q, .int .u64 G] 24)).alloc (.cells #[.int .u64 R, .int .u64 S, .int .u64 Z] 26)).alloc (.cells #[.int .u64 Z] 22)).alloc (.cells #[.int .u64 y, .int .u64 a, .int .u64 d, .int .u64 R, .int .u64 S] 22)) (w.heap.size + 1) [R, S, Z] from ((Arr.new .u64 _ [R, S, Z] _ (w.heap.size + 1) (by simp)).alloc _).alloc _)
      have HBW := Lib.hid (show Below w.heap.size w ((((w.alloc (.cells #[.int .u64 P, .int .u64 Q, .int .u64 G] 24)).alloc (.cells #[.int .u64 R, .int .u64 S, .int .u64 Z] 26)).alloc (.cells #[.int .u64 Z] 22)).alloc (.cells #[.int .u64 y, .int .u64 a, .int .u64 d, .int .u64 R, .int .u64 S] 22)) from ((((Below.refl _ _).alloc (by simp <;> omega) _).alloc (by simp <;> omega) _).alloc (by simp <;> omega) _).alloc (by simp <;> omega) _)
      go_enter Tryd.func14, Tryd.ntmps14
      obtain ⟨q1_0, q1_1, q1_2, q1_3, q1_4, q1_5⟩ := Arr.k3 F_p.out
      obtain ⟨x0a, x0b, x0c, -⟩ := id F_g.out
      go_wp2_with fail
      clear x0a x0b x0c q1_0 q1_1 q1_2 q1_3 q1_4 q1_5
      refine (pcheck_any _ hP hQ hG F_es.out F_ns.out (by simp) (by simp) HR.out).mono ?_
      rintro e w1 ⟨rfl, hb1⟩
      replace F_g := Lib.hid (F_g.out.keep hb1)
      replace F_p := Lib.hid (F_p.out.keep hb1)
      replace F_es := Lib.hid (F_es.out.keep hb1)
      replace F_ns := Lib.hid (F_ns.out.keep hb1)
      replace HBW := Lib.hid (HBW.out.trans (hb1.mono HBW.out.size))
      clear hb1
      clear F_es
      clear F_ns
      obtain ⟨q1_0, q1_1, q1_2, q1_3, q1_4, q1_5⟩ := Arr.k3 F_p.out
      obtain ⟨x0a, x0b, x0c, -⟩ := id F_g.out
      go_wp2_with fail
      clear x0a x0b x0c q1_0 q1_1 q1_2 q1_3 q1_4 q1_5
      refine (plong_any _ HLG.out).mono ?_
      rintro e w2 ⟨rfl, rfl⟩
      obtain ⟨q1_0, q1_1, q1_2, q1_3, q1_4, q1_5⟩ := Arr.k3 F_p.out
      obtain ⟨x0a, x0b, x0c, -⟩ := id F_g.out
      go_wp2_with fail
      clear x0a x0b x0c q1_0 q1_1 q1_2 q1_3 q1_4 q1_5
      replace F_g := Lib.hid (F_g.out.alloc (.cells #[.int .u64 y, .int .u64 a, .int .u64 d, .int .u64 R, .int .u64 S] 22))
      replace F_p := Lib.hid (F_p.out.alloc (.cells #[.int .u64 y, .int .u64 a, .int .u64 d, .int .u64 R, .int .u64 S] 22))
      have F_ms := Lib.hid (ShL.laid w1 [y, a, d, R, S] _ 22 _ 5 5 rfl rfl rfl)
      replace HBW := Lib.hid (HBW.out.alloc HBW.out.size (.cells #[.int .u64 y, .int .u64 a, .int .u64 d, .int .u64 R, .int .u64 S] 22))
      refine (pmembers_any (v := false) _ HH.out F_ms.out HRG.out (by simp) ⟨fun h => (by cases h), fun h => absurd h HM.out⟩).mono ?_
      rintro e w3 ⟨rfl, hb3⟩
      replace F_g := Lib.hid (F_g.out.keep hb3)
      replace F_p := Lib.hid (F_p.out.keep hb3)
      replace F_ms := Lib.hid (F_ms.out.keep hb3)
      replace HBW := Lib.hid (HBW.out.trans (hb3.mono HBW.out.size))
      clear hb3
      clear F_ms
      obtain ⟨q1_0, q1_1, q1_2, q1_3, q1_4, q1_5⟩ := Arr.k3 F_p.out
      obtain ⟨x0a, x0b, x0c, -⟩ := id F_g.out
      go_wp2_with fail
      go_ret2
      exact ⟨ret_bi HZ.out rfl, HBW.out⟩
    case pos =>
      have HM := Lib.hid hM
      have HFI := Lib.hid (show RetB (askS P Q G [Z, h_] [y, a, d, R, S]) (powm G Z P = R * powm y h_ P % P ∧ powm a Z P = S * powm d h_ P % P) v 0 from .inl ⟨askS_ok HH.out (by simp; omega) (by simp; omega), HV.out.trans ⟨fun h => by rw [← HCC.out]; exact h.2, fun h => ⟨HM.out, by rw [HCC.out]; exact h⟩⟩, rfl⟩)
      clear hM
      have F_g := Lib.hid (show Boxed ((((w.alloc (.cells #[.int .u64 P, .int .u64 Q, .int .u64 G] 24)).alloc (.cells #[.int .u64 R, .int .u64 S, .int .u64 Z] 26)).alloc (.cells #[.int .u64 Z] 22)).alloc (.cells #[.int .u64 y, .int .u64 a, .int .u64 d, .int .u64 R, .int .u64 S] 22)) (w.heap.size) P Q G from (((Boxed.at _ P Q G _ (w.heap.size) (by simp)).alloc _).alloc _).alloc _)
      have F_es := Lib.hid (show ShL ((((w.alloc (.cells #[.int .u64 P, .int .u64 Q, .int .u64 G] 24)).alloc (.cells #[.int .u64 R, .int .u64 S, .int .u64 Z] 26)).alloc (.cells #[.int .u64 Z] 22)).alloc (.cells #[.int .u64 y, .int .u64 a, .int .u64 d, .int .u64 R, .int .u64 S] 22)) (some ⟨w.heap.size + 1 + 1, 0, none⟩) 1 1 [Z] from (ShL.laid _ [Z] _ _ (w.heap.size + 1 + 1) _ _ (by simp) rfl rfl).alloc _)
      have F_ns := Lib.hid (show ShL ((((w.alloc (.cells #[.int .u64 P, .int .u64 Q, .int .u64 G] 24)).alloc (.cells #[.int .u64 R, .int .u64 S, .int .u64 Z] 26)).alloc (.cells #[.int .u64 Z] 22)).alloc (.cells #[.int .u64 y, .int .u64 a, .int .u64 d, .int .u64 R, .int .u64 S] 22)) (some ⟨w.heap.size + 1 + 1 + 1, 0, none⟩) 5 5 [y, a, d, R, S] from ShL.laid _ [y, a, d, R, S] _ _ (w.heap.size + 1 + 1 + 1) _ _ (by simp) rfl rfl)
      have F_p := Lib.hid (show Arr .u64 ((((w.alloc (.cells #[.int .u64 P, .int .u64 Q, .int .u64 G] 24)).alloc (.cells #[.int .u64 R, .int .u64 S, .int .u64 Z] 26)).alloc (.cells #[.int .u64 Z] 22)).alloc (.cells #[.int .u64 y, .int .u64 a, .int .u64 d, .int .u64 R, .int .u64 S] 22)) (w.heap.size + 1) [R, S, Z] from ((Arr.new .u64 _ [R, S, Z] _ (w.heap.size + 1) (by simp)).alloc _).alloc _)
      have HBW := Lib.hid (show Below w.heap.size w ((((w.alloc (.cells #[.int .u64 P, .int .u64 Q, .int .u64 G] 24)).alloc (.cells #[.int .u64 R, .int .u64 S, .int .u64 Z] 26)).alloc (.cells #[.int .u64 Z] 22)).alloc (.cells #[.int .u64 y, .int .u64 a, .int .u64 d, .int .u64 R, .int .u64 S] 22)) from ((((Below.refl _ _).alloc (by simp <;> omega) _).alloc (by simp <;> omega) _).alloc (by simp <;> omega) _).alloc (by simp <;> omega) _)
      go_enter Tryd.func14, Tryd.ntmps14
      obtain ⟨q1_0, q1_1, q1_2, q1_3, q1_4, q1_5⟩ := Arr.k3 F_p.out
      obtain ⟨x0a, x0b, x0c, -⟩ := id F_g.out
      go_wp2_with fail
      clear x0a x0b x0c q1_0 q1_1 q1_2 q1_3 q1_4 q1_5
      refine (pcheck_any _ hP hQ hG F_es.out F_ns.out (by simp) (by simp) HR.out).mono ?_
      rintro e w1 ⟨rfl, hb1⟩
      replace F_g := Lib.hid (F_g.out.keep hb1)
      replace F_p := Lib.hid (F_p.out.keep hb1)
      replace F_es := Lib.hid (F_es.out.keep hb1)
      replace F_ns := Lib.hid (F_ns.out.keep hb1)
      replace HBW := Lib.hid (HBW.out.trans (hb1.mono HBW.out.size))
      clear hb1
      clear F_es
      clear F_ns
      obtain ⟨q1_0, q1_1, q1_2, q1_3, q1_4, q1_5⟩ := Arr.k3 F_p.out
      obtain ⟨x0a, x0b, x0c, -⟩ := id F_g.out
      go_wp2_with fail
      clear x0a x0b x0c q1_0 q1_1 q1_2 q1_3 q1_4 q1_5
      refine (plong_any _ HLG.out).mono ?_
      rintro e w2 ⟨rfl, rfl⟩
      obtain ⟨q1_0, q1_1, q1_2, q1_3, q1_4, q1_5⟩ := Arr.k3 F_p.out
      obtain ⟨x0a, x0b, x0c, -⟩ := id F_g.out
      go_wp2_with fail
      clear x0a x0b x0c q1_0 q1_1 q1_2 q1_3 q1_4 q1_5
      replace F_g := Lib.hid (F_g.out.alloc (.cells #[.int .u64 y, .int .u64 a, .int .u64 d, .int .u64 R, .int .u64 S] 22))
      replace F_p := Lib.hid (F_p.out.alloc (.cells #[.int .u64 y, .int .u64 a, .int .u64 d, .int .u64 R, .int .u64 S] 22))
      have F_ms := Lib.hid (ShL.laid w1 [y, a, d, R, S] _ 22 _ 5 5 rfl rfl rfl)
      replace HBW := Lib.hid (HBW.out.alloc HBW.out.size (.cells #[.int .u64 y, .int .u64 a, .int .u64 d, .int .u64 R, .int .u64 S] 22))
      refine (pmembers_any (v := true) _ HH.out F_ms.out HRG.out (by simp) ⟨fun _ => HM.out, fun _ => rfl⟩).mono ?_
      rintro e w3 ⟨rfl, hb3⟩
      replace F_g := Lib.hid (F_g.out.keep hb3)
      replace F_p := Lib.hid (F_p.out.keep hb3)
      replace F_ms := Lib.hid (F_ms.out.keep hb3)
      replace HBW := Lib.hid (HBW.out.trans (hb3.mono HBW.out.size))
      clear hb3
      clear F_ms
      obtain ⟨q1_0, q1_1, q1_2, q1_3, q1_4, q1_5⟩ := Arr.k3 F_p.out
      obtain ⟨x0a, x0b, x0c, -⟩ := id F_g.out
      go_wp2_with fail
      clear x0a x0b x0c q1_0 q1_1 q1_2 q1_3 q1_4 q1_5
      replace F_g := Lib.hid F_g.out.drew
      replace F_p := Lib.hid F_p.out.drew
      replace HBW := Lib.hid HBW.out.drew
      have hS := And.intro F_g.out.s F_p.out.s3
      refine wp_region_stage 16 (fun w' => SBox w' w.heap.size P Q G ∧ S3 w' (w.heap.size + 1) R S Z) (by kernel_rfl) ?_
      refine wpAnyB_take (i := 0) (some 48) (Op.load 24 (Operand.tmp 6)) 24 (v := ?_) ⟨_, rfl, rfl, rfl, rfl, rfl⟩ (by kernel_rfl) (by kernel_rfl) (by kernel_rfl) [16] (by kernel_rfl) (fun _ _ _ h => h) hS (fun w' hSw => ?_) ?_
      rotate_left
      · obtain ⟨⟨s0, s1, s2⟩, ⟨s3, s4, s5⟩⟩ := hSw
        unfold bareOp
        go_simp
        try with_reducible rfl
      simp only [Act.put, List.setIfInBounds_toArray, List.set_cons_zero, List.set_cons_succ]
      refine wpAnyB_takeP (i := 1) (some 49) (Op.move (Operand.tmp 1)) 22 (v := ?_) ⟨_, rfl, rfl, rfl, rfl, rfl⟩ (by kernel_rfl) (by kernel_rfl) (by kernel_rfl) (by kernel_rfl) (fun _ _ _ h => h) (fun _ => hS) (fun w' => ?_) ?_
      rotate_left
      · unfold bareOp
        go_simp
        try with_reducible rfl
      simp only [Act.put, List.setIfInBounds_toArray, List.set_cons_zero, List.set_cons_succ]
      refine wpAnyB_takeP (i := 2) (some 50) (Op.move (Operand.tmp 2)) 22 (v := ?_) ⟨_, rfl, rfl, rfl, rfl, rfl⟩ (by kernel_rfl) (by kernel_rfl) (by kernel_rfl) (by kernel_rfl) (fun _ _ _ h => h) (fun _ => hS) (fun w' => ?_) ?_
      rotate_left
      · unfold bareOp
        go_simp
        try with_reducible rfl
      simp only [Act.put, List.setIfInBounds_toArray, List.set_cons_zero, List.set_cons_succ]
      refine wpAnyB_takeP (i := 3) (some 51) (Op.move (Operand.tmp 3)) 22 (v := ?_) ⟨_, rfl, rfl, rfl, rfl, rfl⟩ (by kernel_rfl) (by kernel_rfl) (by kernel_rfl) (by kernel_rfl) (fun _ _ _ h => h) (fun _ => hS) (fun w' => ?_) ?_
      rotate_left
      · unfold bareOp
        go_simp
        try with_reducible rfl
      simp only [Act.put, List.setIfInBounds_toArray, List.set_cons_zero, List.set_cons_succ]
      refine wpAnyB_take (i := 4) (some 52) (Op.load 26 (Operand.tmp 10)) 26 (v := ?_) ⟨_, rfl, rfl, rfl, rfl, rfl⟩ (by kernel_rfl) (by kernel_rfl) (by kernel_rfl) [16] (by kernel_rfl) (fun _ _ _ h => h) hS (fun w' hSw => ?_) ?_
      rotate_left
      · obtain ⟨⟨s0, s1, s2⟩, ⟨s3, s4, s5⟩⟩ := hSw
        unfold bareOp
        go_simp
        try with_reducible rfl
      simp only [Act.put, List.setIfInBounds_toArray, List.set_cons_zero, List.set_cons_succ]
      refine wpAnyB_take (i := 5) (some 53) (Op.load 24 (Operand.tmp 6)) 24 (v := ?_) ⟨_, rfl, rfl, rfl, rfl, rfl⟩ (by kernel_rfl) (by kernel_rfl) (by kernel_rfl) [15, 16] (by kernel_rfl) (fun _ _ _ h => h) hS (fun w' hSw => ?_) ?_
      rotate_left
      · obtain ⟨⟨s0, s1, s2⟩, ⟨s3, s4, s5⟩⟩ := hSw
        unfold bareOp
        go_simp
        try with_reducible rfl
      simp only [Act.put, List.setIfInBounds_toArray, List.set_cons_zero, List.set_cons_succ]
      refine wpAnyB_takeP (i := 6) (some 54) (Op.move (Operand.tmp 5)) 27 (v := ?_) ⟨_, rfl, rfl, rfl, rfl, rfl⟩ (by kernel_rfl) (by kernel_rfl) (by kernel_rfl) (by kernel_rfl) (fun _ _ _ h => h) (fun _ => hS) (fun w' => ?_) ?_
      rotate_left
      · unfold bareOp
        go_simp
        try with_reducible rfl
      simp only [Act.put, List.setIfInBounds_toArray, List.set_cons_zero, List.set_cons_succ]
      refine wpAnyB_takeP (i := 7) (some 55) (Op.move (Operand.tmp 1)) 22 (v := ?_) ⟨_, rfl, rfl, rfl, rfl, rfl⟩ (by kernel_rfl) (by kernel_rfl) (by kernel_rfl) (by kernel_rfl) (fun _ _ _ h => h) (fun _ => hS) (fun w' => ?_) ?_
      rotate_left
      · unfold bareOp
        go_simp
        try with_reducible rfl
      simp only [Act.put, List.setIfInBounds_toArray, List.set_cons_zero, List.set_cons_succ]
      refine wpAnyB_takeP (i := 8) (some 56) (Op.move (Operand.tmp 2)) 22 (v := ?_) ⟨_, rfl, rfl, rfl, rfl, rfl⟩ (by kernel_rfl) (by kernel_rfl) (by kernel_rfl) (by kernel_rfl) (fun _ _ _ h => h) (fun _ => hS) (fun w' => ?_) ?_
      rotate_left
      · unfold bareOp
        go_simp
        try with_reducible rfl
      simp only [Act.put, List.setIfInBounds_toArray, List.set_cons_zero, List.set_cons_succ]
      refine wpAnyB_takeP (i := 9) (some 57) (Op.move (Operand.tmp 3)) 22 (v := ?_) ⟨_, rfl, rfl, rfl, rfl, rfl⟩ (by kernel_rfl) (by kernel_rfl) (by kernel_rfl) (by kernel_rfl) (fun _ _ _ h => h) (fun _ => hS) (fun w' => ?_) ?_
      rotate_left
      · unfold bareOp
        go_simp
        try with_reducible rfl
      simp only [Act.put, List.setIfInBounds_toArray, List.set_cons_zero, List.set_cons_succ]
      refine wpAnyB_takeP (i := 10) (some 58) (Op.fieldAddr 26 (Operand.tmp 10) 0) 0 (v := ?_) ⟨_, rfl, rfl, rfl, rfl, rfl⟩ (by kernel_rfl) (by kernel_rfl) (by kernel_rfl) (by kernel_rfl) (fun _ _ _ h => h) (fun _ => hS) (fun w' => ?_) ?_
      rotate_left
      · unfold bareOp
        go_simp
        try with_reducible rfl
      simp only [Act.put, List.setIfInBounds_toArray, List.set_cons_zero, List.set_cons_succ]
      refine wpAnyB_take (i := 11) (some 59) (Op.load 22 (Operand.tmp 58)) 22 (v := ?_) ⟨_, rfl, rfl, rfl, rfl, rfl⟩ (by kernel_rfl) (by kernel_rfl) (by kernel_rfl) [14, 15, 16] (by kernel_rfl) (fun _ _ _ h => h) hS (fun w' hSw => ?_) ?_
      rotate_left
      · obtain ⟨⟨s0, s1, s2⟩, ⟨s3, s4, s5⟩⟩ := hSw
        unfold bareOp
        go_simp
        try with_reducible rfl
      simp only [Act.put, List.setIfInBounds_toArray, List.set_cons_zero, List.set_cons_succ]
      refine wpAnyB_takeP (i := 12) (some 60) (Op.fieldAddr 26 (Operand.tmp 10) 1) 0 (v := ?_) ⟨_, rfl, rfl, rfl, rfl, rfl⟩ (by kernel_rfl) (by kernel_rfl) (by kernel_rfl) (by kernel_rfl) (fun _ _ _ h => h) (fun _ => hS) (fun w' => ?_) ?_
      rotate_left
      · unfold bareOp
        go_simp
        try with_reducible rfl
      simp only [Act.put, List.setIfInBounds_toArray, List.set_cons_zero, List.set_cons_succ]
      refine wpAnyB_take (i := 13) (some 61) (Op.load 22 (Operand.tmp 60)) 22 (v := ?_) ⟨_, rfl, rfl, rfl, rfl, rfl⟩ (by kernel_rfl) (by kernel_rfl) (by kernel_rfl) [14, 15, 16] (by kernel_rfl) (fun _ _ _ h => h) hS (fun w' hSw => ?_) ?_
      rotate_left
      · obtain ⟨⟨s0, s1, s2⟩, ⟨s3, s4, s5⟩⟩ := hSw
        unfold bareOp
        go_simp
        try with_reducible rfl
      simp only [Act.put, List.setIfInBounds_toArray, List.set_cons_zero, List.set_cons_succ]
      refine wpAnyB_only (i := 14) (some 62) (Op.buildSlice 42 5 #[(0, Operand.tmp 55), (1, Operand.tmp 56), (2, Operand.tmp 57), (3, Operand.tmp 59), (4, Operand.tmp 61)]) 42 ⟨_, rfl, rfl, rfl, rfl, rfl⟩ (by kernel_rfl) (fun K hK => ?_)
      unfold bareOp
      go_wp2_with fail
      have F_ms := Lib.hid (ShL.laid w3.drew [y, a, d, R, S] _ 22 _ 5 5 rfl rfl rfl)
      replace F_g := Lib.hid (F_g.out.alloc (.cells #[.int .u64 y, .int .u64 a, .int .u64 d, .int .u64 R, .int .u64 S] 22))
      replace F_p := Lib.hid (F_p.out.alloc (.cells #[.int .u64 y, .int .u64 a, .int .u64 d, .int .u64 R, .int .u64 S] 22))
      replace HBW := Lib.hid (HBW.out.alloc HBW.out.size (.cells #[.int .u64 y, .int .u64 a, .int .u64 d, .int .u64 R, .int .u64 S] 22))
      replace hS := And.intro F_g.out.s F_p.out.s3
      refine hK.out _ _ (fun _ => hS) ?_
      clear hK K
      try simp only [Act.put, List.setIfInBounds_toArray, List.set_cons_zero, List.set_cons_succ]
      refine wpAnyB_only (i := 15) (some 63) (Op.call { callee := Callee.value (Operand.func 32), args := #[Operand.tmp 53, Operand.tmp 54, Operand.tmp 62], argTypes := #[24, 27, 42] }) 22 ⟨_, rfl, rfl, rfl, rfl, rfl⟩ (by kernel_rfl) (fun K hK => ?_)
      unfold bareOp
      go_wp2_with (go_at_call 32; refine (pchallenge_any _ (HT.out.keep HBW.out) HH.out F_ms.out HUS.out (by simp) hn8 HCC.out).mono ?_; rintro e w4 ⟨rfl, hb4⟩)
      replace F_g := Lib.hid (F_g.out.keep hb4)
      replace F_p := Lib.hid (F_p.out.keep hb4)
      replace F_ms := Lib.hid (F_ms.out.keep hb4)
      replace HBW := Lib.hid (HBW.out.trans (hb4.mono HBW.out.size))
      replace hS := And.intro F_g.out.s F_p.out.s3
      clear hb4
      refine hK.out _ _ (fun _ => hS) ?_
      clear hK K
      try simp only [Act.put, List.setIfInBounds_toArray, List.set_cons_zero, List.set_cons_succ]
      refine wpAnyB_only (i := 16) (some 64) (Op.call { callee := Callee.value (Operand.func 12), args := #[Operand.tmp 48, Operand.tmp 49, Operand.tmp 50, Operand.tmp 51, Operand.tmp 52, Operand.tmp 63], argTypes := #[24, 22, 22, 22, 26, 22] }) 34 ⟨_, rfl, rfl, rfl, rfl, rfl⟩ (by kernel_rfl) (fun K hK => ?_)
      unfold bareOp
      go_wp2_with (go_at_call 12; refine (equalHolds_any (v := v) (e' := 0) _ hP hQ hG y0 a0 d0 R0 S0 Z0 h0 HFI.out).mono ?_; rintro e w5 ⟨rfl, hb5⟩)
      replace F_g := Lib.hid (F_g.out.keep hb5)
      replace F_p := Lib.hid (F_p.out.keep hb5)
      replace F_ms := Lib.hid (F_ms.out.keep hb5)
      replace HBW := Lib.hid (HBW.out.trans (hb5.mono HBW.out.size))
      replace hS := And.intro F_g.out.s F_p.out.s3
      clear hb5
      refine hK.out _ _ (fun h => absurd (h.symm.trans (by kernel_rfl : _ = true)) (by decide)) ?_
      clear hK K
      try simp only [Act.put, List.setIfInBounds_toArray, List.set_cons_zero, List.set_cons_succ]
      refine wpAnyB_takeP (i := 17) (some 65) (Op.extract (Operand.tmp 64) 0) 4 (v := ?_) ⟨_, rfl, rfl, rfl, rfl, rfl⟩ (by kernel_rfl) (by kernel_rfl) (by kernel_rfl) (by kernel_rfl) (fun _ _ _ h => h) (fun h => absurd (h.symm.trans (by kernel_rfl : _ = true)) (by decide)) (fun w' => ?_) ?_
      rotate_left
      · unfold bareOp
        go_simp
        try with_reducible rfl
      simp only [Act.put, List.setIfInBounds_toArray, List.set_cons_zero, List.set_cons_succ]
      refine wpAnyB_takeP (i := 18) (some 66) (Op.extract (Operand.tmp 64) 1) 29 (v := ?_) ⟨_, rfl, rfl, rfl, rfl, rfl⟩ (by kernel_rfl) (by kernel_rfl) (by kernel_rfl) (by kernel_rfl) (fun _ _ _ h => h) (fun h => absurd (h.symm.trans (by kernel_rfl : _ = true)) (by decide)) (fun w' => ?_) ?_
      rotate_left
      · unfold bareOp
        go_simp
        try with_reducible rfl
      simp only [Act.put, List.setIfInBounds_toArray, List.set_cons_zero, List.set_cons_succ]
      refine wpAnyB_takeP (i := 19) (some 12) (Op.assign (Operand.tmp 65)) 4 (v := ?_) ⟨_, rfl, rfl, rfl, rfl, rfl⟩ (by kernel_rfl) (by kernel_rfl) (by kernel_rfl) (by kernel_rfl) (fun _ _ _ h => h) (fun h => absurd (h.symm.trans (by kernel_rfl : _ = true)) (by decide)) (fun w' => ?_) ?_
      rotate_left
      · unfold bareOp
        go_simp
        try with_reducible rfl
      simp only [Act.put, List.setIfInBounds_toArray, List.set_cons_zero, List.set_cons_succ]
      refine wpAnyB_takeP (i := 20) (some 13) (Op.assign (Operand.tmp 66)) 29 (v := ?_) ⟨_, rfl, rfl, rfl, rfl, rfl⟩ (by kernel_rfl) (by kernel_rfl) (by kernel_rfl) (by kernel_rfl) (fun _ _ _ h => h) (fun h => absurd (h.symm.trans (by kernel_rfl : _ = true)) (by decide)) (fun w' => ?_) ?_
      rotate_left
      · unfold bareOp
        go_simp
        try with_reducible rfl
      simp only [Act.put, List.setIfInBounds_toArray, List.set_cons_zero, List.set_cons_succ]
      refine wpAnyB_done (by kernel_rfl) ?_ _
      clear F_ms
      go_wp2_with fail
      go_ret2
      exact ⟨rfl, HBW.out⟩
  · by_cases ha : askS P Q G [Z] [y, a, d, R, S] = 0
    · have hn8 := lgS_long ha h
      obtain rfl : e' = 4 := by rw [hc]; exact lgS_four ha hn8
      have HR := Lib.hid ha
      have HLG := Lib.hid (show lgS 0 n = 4 from lgS_four rfl hn8)
      clear h hc ha
      have F_g := Lib.hid (show Boxed ((((w.alloc (.cells #[.int .u64 P, .int .u64 Q, .int .u64 G] 24)).alloc (.cells #[.int .u64 R, .int .u64 S, .int .u64 Z] 26)).alloc (.cells #[.int .u64 Z] 22)).alloc (.cells #[.int .u64 y, .int .u64 a, .int .u64 d, .int .u64 R, .int .u64 S] 22)) (w.heap.size) P Q G from (((Boxed.at _ P Q G _ (w.heap.size) (by simp)).alloc _).alloc _).alloc _)
      have F_es := Lib.hid (show ShL ((((w.alloc (.cells #[.int .u64 P, .int .u64 Q, .int .u64 G] 24)).alloc (.cells #[.int .u64 R, .int .u64 S, .int .u64 Z] 26)).alloc (.cells #[.int .u64 Z] 22)).alloc (.cells #[.int .u64 y, .int .u64 a, .int .u64 d, .int .u64 R, .int .u64 S] 22)) (some ⟨w.heap.size + 1 + 1, 0, none⟩) 1 1 [Z] from (ShL.laid _ [Z] _ _ (w.heap.size + 1 + 1) _ _ (by simp) rfl rfl).alloc _)
      have F_ns := Lib.hid (show ShL ((((w.alloc (.cells #[.int .u64 P, .int .u64 Q, .int .u64 G] 24)).alloc (.cells #[.int .u64 R, .int .u64 S, .int .u64 Z] 26)).alloc (.cells #[.int .u64 Z] 22)).alloc (.cells #[.int .u64 y, .int .u64 a, .int .u64 d, .int .u64 R, .int .u64 S] 22)) (some ⟨w.heap.size + 1 + 1 + 1, 0, none⟩) 5 5 [y, a, d, R, S] from ShL.laid _ [y, a, d, R, S] _ _ (w.heap.size + 1 + 1 + 1) _ _ (by simp) rfl rfl)
      have F_p := Lib.hid (show Arr .u64 ((((w.alloc (.cells #[.int .u64 P, .int .u64 Q, .int .u64 G] 24)).alloc (.cells #[.int .u64 R, .int .u64 S, .int .u64 Z] 26)).alloc (.cells #[.int .u64 Z] 22)).alloc (.cells #[.int .u64 y, .int .u64 a, .int .u64 d, .int .u64 R, .int .u64 S] 22)) (w.heap.size + 1) [R, S, Z] from ((Arr.new .u64 _ [R, S, Z] _ (w.heap.size + 1) (by simp)).alloc _).alloc _)
      have HBW := Lib.hid (show Below w.heap.size w ((((w.alloc (.cells #[.int .u64 P, .int .u64 Q, .int .u64 G] 24)).alloc (.cells #[.int .u64 R, .int .u64 S, .int .u64 Z] 26)).alloc (.cells #[.int .u64 Z] 22)).alloc (.cells #[.int .u64 y, .int .u64 a, .int .u64 d, .int .u64 R, .int .u64 S] 22)) from ((((Below.refl _ _).alloc (by simp <;> omega) _).alloc (by simp <;> omega) _).alloc (by simp <;> omega) _).alloc (by simp <;> omega) _)
      go_enter Tryd.func14, Tryd.ntmps14
      obtain ⟨q1_0, q1_1, q1_2, q1_3, q1_4, q1_5⟩ := Arr.k3 F_p.out
      obtain ⟨x0a, x0b, x0c, -⟩ := id F_g.out
      go_wp2_with fail
      clear x0a x0b x0c q1_0 q1_1 q1_2 q1_3 q1_4 q1_5
      refine (pcheck_any _ hP hQ hG F_es.out F_ns.out (by simp) (by simp) HR.out).mono ?_
      rintro e w1 ⟨rfl, hb1⟩
      replace F_g := Lib.hid (F_g.out.keep hb1)
      replace F_p := Lib.hid (F_p.out.keep hb1)
      replace F_es := Lib.hid (F_es.out.keep hb1)
      replace F_ns := Lib.hid (F_ns.out.keep hb1)
      replace HBW := Lib.hid (HBW.out.trans (hb1.mono HBW.out.size))
      clear hb1
      clear F_es
      clear F_ns
      obtain ⟨q1_0, q1_1, q1_2, q1_3, q1_4, q1_5⟩ := Arr.k3 F_p.out
      obtain ⟨x0a, x0b, x0c, -⟩ := id F_g.out
      go_wp2_with fail
      clear x0a x0b x0c q1_0 q1_1 q1_2 q1_3 q1_4 q1_5
      refine (plong_any _ HLG.out).mono ?_
      rintro e w2 ⟨rfl, rfl⟩
      obtain ⟨q1_0, q1_1, q1_2, q1_3, q1_4, q1_5⟩ := Arr.k3 F_p.out
      obtain ⟨x0a, x0b, x0c, -⟩ := id F_g.out
      go_wp2_with fail
      go_ret2
      exact ⟨rfl, HBW.out⟩
    · have hc' : e' = askS P Q G [Z] [y, a, d, R, S] := by rw [hc]; exact lgS_ne ha
      have hnc : e' ≠ 0 := by rw [hc']; exact ha
      have hn1 : (e' != 0) = true := by simpa using hnc
      have HR := Lib.hid hc'.symm
      have HLG := Lib.hid (show lgS e' n = e' from lgS_ne hnc)
      clear h hc ha hc' hnc
      have F_g := Lib.hid (show Boxed ((((w.alloc (.cells #[.int .u64 P, .int .u64 Q, .int .u64 G] 24)).alloc (.cells #[.int .u64 R, .int .u64 S, .int .u64 Z] 26)).alloc (.cells #[.int .u64 Z] 22)).alloc (.cells #[.int .u64 y, .int .u64 a, .int .u64 d, .int .u64 R, .int .u64 S] 22)) (w.heap.size) P Q G from (((Boxed.at _ P Q G _ (w.heap.size) (by simp)).alloc _).alloc _).alloc _)
      have F_es := Lib.hid (show ShL ((((w.alloc (.cells #[.int .u64 P, .int .u64 Q, .int .u64 G] 24)).alloc (.cells #[.int .u64 R, .int .u64 S, .int .u64 Z] 26)).alloc (.cells #[.int .u64 Z] 22)).alloc (.cells #[.int .u64 y, .int .u64 a, .int .u64 d, .int .u64 R, .int .u64 S] 22)) (some ⟨w.heap.size + 1 + 1, 0, none⟩) 1 1 [Z] from (ShL.laid _ [Z] _ _ (w.heap.size + 1 + 1) _ _ (by simp) rfl rfl).alloc _)
      have F_ns := Lib.hid (show ShL ((((w.alloc (.cells #[.int .u64 P, .int .u64 Q, .int .u64 G] 24)).alloc (.cells #[.int .u64 R, .int .u64 S, .int .u64 Z] 26)).alloc (.cells #[.int .u64 Z] 22)).alloc (.cells #[.int .u64 y, .int .u64 a, .int .u64 d, .int .u64 R, .int .u64 S] 22)) (some ⟨w.heap.size + 1 + 1 + 1, 0, none⟩) 5 5 [y, a, d, R, S] from ShL.laid _ [y, a, d, R, S] _ _ (w.heap.size + 1 + 1 + 1) _ _ (by simp) rfl rfl)
      have F_p := Lib.hid (show Arr .u64 ((((w.alloc (.cells #[.int .u64 P, .int .u64 Q, .int .u64 G] 24)).alloc (.cells #[.int .u64 R, .int .u64 S, .int .u64 Z] 26)).alloc (.cells #[.int .u64 Z] 22)).alloc (.cells #[.int .u64 y, .int .u64 a, .int .u64 d, .int .u64 R, .int .u64 S] 22)) (w.heap.size + 1) [R, S, Z] from ((Arr.new .u64 _ [R, S, Z] _ (w.heap.size + 1) (by simp)).alloc _).alloc _)
      have HBW := Lib.hid (show Below w.heap.size w ((((w.alloc (.cells #[.int .u64 P, .int .u64 Q, .int .u64 G] 24)).alloc (.cells #[.int .u64 R, .int .u64 S, .int .u64 Z] 26)).alloc (.cells #[.int .u64 Z] 22)).alloc (.cells #[.int .u64 y, .int .u64 a, .int .u64 d, .int .u64 R, .int .u64 S] 22)) from ((((Below.refl _ _).alloc (by simp <;> omega) _).alloc (by simp <;> omega) _).alloc (by simp <;> omega) _).alloc (by simp <;> omega) _)
      go_enter Tryd.func14, Tryd.ntmps14
      obtain ⟨q1_0, q1_1, q1_2, q1_3, q1_4, q1_5⟩ := Arr.k3 F_p.out
      obtain ⟨x0a, x0b, x0c, -⟩ := id F_g.out
      go_wp2_with fail
      clear x0a x0b x0c q1_0 q1_1 q1_2 q1_3 q1_4 q1_5
      refine (pcheck_any _ hP hQ hG F_es.out F_ns.out (by simp) (by simp) HR.out).mono ?_
      rintro e w1 ⟨rfl, hb1⟩
      replace F_g := Lib.hid (F_g.out.keep hb1)
      replace F_p := Lib.hid (F_p.out.keep hb1)
      replace F_es := Lib.hid (F_es.out.keep hb1)
      replace F_ns := Lib.hid (F_ns.out.keep hb1)
      replace HBW := Lib.hid (HBW.out.trans (hb1.mono HBW.out.size))
      clear hb1
      clear F_es
      clear F_ns
      obtain ⟨q1_0, q1_1, q1_2, q1_3, q1_4, q1_5⟩ := Arr.k3 F_p.out
      obtain ⟨x0a, x0b, x0c, -⟩ := id F_g.out
      go_wp2_with fail
      go_ret2
      exact ⟨rfl, HBW.out⟩



set_option maxRecDepth 100000 in
set_option maxHeartbeats 4000000 in
theorem rEqualOf_any {P Q G a x k R S Z : Int} {tx : Option Addr} {n cp : Nat} {T : List Int} (w : World) (hT : Txt w tx n T) (hH : Has P Q G) (a0 : 0 ≤ a) (aP : a < P) (x0 : 0 ≤ x) (xQ : x < Q) (k0 : 0 ≤ k) (kQ : k < Q) (hn8 : n ≤ 8000) (hR : R = powm G k P) (hS : S = powm a k P) (hZ : Z = eqZ P Q G a x k T) :
    Calls Tryd.prog 36 #[.agg #[.int .u64 P, .int .u64 Q, .int .u64 G], .int .u64 a, .int .u64 x, .int .u64 k, .slice tx n cp] w fun e w' => e = .returned (.agg #[.int .u64 R, .int .u64 S, .int .u64 Z]) ∧ Below w.heap.size w w' := by
  have HT := Lib.hid hT
  clear hT
  obtain ⟨p5, p3, hQ', pq, g2, gP⟩ := id hH
  have hP1 : 1 ≤ P := by omega
  have hGM : G < 2147483648 := by omega
  have q3 : Q < 1073741824 := by omega
  have q2 : 2 ≤ Q := by omega
  have HH := Lib.hid hH
  clear hH pq
  have hG : 0 ≤ G := by omega
  have PM : P < 2147483648 := by omega
  have aM : a < 2147483648 := by omega
  have y0_ := 0
  obtain ⟨y, hy⟩ : ∃ y, powm G x P = y := ⟨_, rfl⟩
  obtain ⟨d, hd_⟩ : ∃ d, powm a x P = d := ⟨_, rfl⟩
  have hRk : powm G k P = R := hR.symm
  have hSk : powm a k P = S := hS.symm
  obtain ⟨h_, hh⟩ : ∃ h_, chV Q [y, a, d, R, S] T = h_ := ⟨_, rfl⟩
  have hZk : (k + h_ * x % Q) % Q = Z := by rw [hZ, eqZ, hy, hd_, hRk, hSk, hh]
  obtain ⟨h0, hQQ⟩ : 0 ≤ h_ ∧ h_ < Q := by rw [← hh]; exact chV_range (by omega) _ _
  have y0 : 0 ≤ y := by rw [← hy]; exact powm_nonneg (by omega)
  have yP : y < P := by rw [← hy]; exact powm_lt (by omega)
  have d0 : 0 ≤ d := by rw [← hd_]; exact powm_nonneg (by omega)
  have dP : d < P := by rw [← hd_]; exact powm_lt (by omega)
  have R0 : 0 ≤ R := by rw [← hRk]; exact powm_nonneg (by omega)
  have RP : R < P := by rw [← hRk]; exact powm_lt (by omega)
  have S0 : 0 ≤ S := by rw [← hSk]; exact powm_nonneg (by omega)
  have SP : S < P := by rw [← hSk]; exact powm_lt (by omega)
  have UX := Lib.hid (U64.of_lt x0 (by omega))
  have UK := Lib.hid (U64.of_lt k0 (by omega))
  have HY := Lib.hid hy
  have HD_ := Lib.hid hd_
  have HRK := Lib.hid hRk
  have HSK := Lib.hid hSk
  have HCC := Lib.hid hh
  have HUS := Lib.hid (show ∀ z, z ∈ [y, a, d, R, S] → U64 z from fun z hz => by
    simp at hz
    rcases hz with rfl | rfl | rfl | rfl | rfl
    · exact U64.of_lt y0 (by omega)
    · exact U64.of_lt a0 (by omega)
    · exact U64.of_lt d0 (by omega)
    · exact U64.of_lt R0 (by omega)
    · exact U64.of_lt S0 (by omega))
  have HZS := Lib.hid (show RetS (askS P Q G [x, k, h_] []) ((k + h_ * x % Q) % Q) Z 0 from .inl ⟨askS_ok HH.out (by simp; omega) (by simp), hZk.symm, rfl⟩)
  obtain ⟨mm, hmm⟩ : ∃ mm, h_ * x % Q = mm := ⟨_, rfl⟩
  have HMM := Lib.hid hmm
  have HZM := Lib.hid (show (k + mm) % Q = Z by rw [← hmm]; exact hZk)
  clear hmm y0_
  clear hy hd_ hRk hSk hh hZk hR hS hZ
  have F_g := Lib.hid (show Boxed ((w.alloc (.cells #[.int .u64 P, .int .u64 Q, .int .u64 G] 24)).alloc (.cells #[.int .u64 0, .int .u64 0, .int .u64 0] 26)) (w.heap.size) P Q G from (Boxed.at _ P Q G _ (w.heap.size) (by simp)).alloc _)
  have F_r := Lib.hid (show Arr .u64 ((w.alloc (.cells #[.int .u64 P, .int .u64 Q, .int .u64 G] 24)).alloc (.cells #[.int .u64 0, .int .u64 0, .int .u64 0] 26)) (w.heap.size + 1) [0, 0, 0] from Arr.new .u64 _ [0, 0, 0] _ (w.heap.size + 1) (by simp))
  have HBW := Lib.hid (show Below w.heap.size w ((w.alloc (.cells #[.int .u64 P, .int .u64 Q, .int .u64 G] 24)).alloc (.cells #[.int .u64 0, .int .u64 0, .int .u64 0] 26)) from ((Below.refl _ _).alloc (by simp <;> omega) _).alloc (by simp <;> omega) _)
  go_enter Tryd.func36, Tryd.ntmps36
  obtain ⟨q1_0, q1_1, q1_2, q1_3, q1_4, q1_5⟩ := Arr.k3 F_r.out
  obtain ⟨x0a, x0b, x0c, -⟩ := id F_g.out
  go_wp2_with fail
  clear x0a x0b x0c q1_0 q1_1 q1_2 q1_3 q1_4 q1_5
  replace F_g := Lib.hid F_g.out.drew
  replace F_r := Lib.hid F_r.out.drew
  replace HBW := Lib.hid HBW.out.drew
  have hS := F_g.out.s
  refine wp_region_stage 8 (fun w' => SBox w' w.heap.size P Q G) (by kernel_rfl) ?_
  refine wpAnyB_take (i := 0) (some 15) (Op.load 24 (Operand.tmp 5)) 24 (v := ?_) ⟨_, rfl, rfl, rfl, rfl, rfl⟩ (by kernel_rfl) (by kernel_rfl) (by kernel_rfl) [4, 8] (by kernel_rfl) (fun _ _ _ h => h) hS (fun w' hSw => ?_) ?_
  rotate_left
  · obtain ⟨s0, s1, s2⟩ := hSw
    unfold bareOp
    go_simp
    try with_reducible rfl
  simp only [Act.put, List.setIfInBounds_toArray, List.set_cons_zero, List.set_cons_succ]
  refine wpAnyB_takeP (i := 1) (some 16) (Op.fieldAddr 24 (Operand.tmp 5) 2) 0 (v := ?_) ⟨_, rfl, rfl, rfl, rfl, rfl⟩ (by kernel_rfl) (by kernel_rfl) (by kernel_rfl) (by kernel_rfl) (fun _ _ _ h => h) (fun _ => hS) (fun w' => ?_) ?_
  rotate_left
  · unfold bareOp
    go_simp
    try with_reducible rfl
  simp only [Act.put, List.setIfInBounds_toArray, List.set_cons_zero, List.set_cons_succ]
  refine wpAnyB_take (i := 2) (some 17) (Op.load 22 (Operand.tmp 16)) 22 (v := ?_) ⟨_, rfl, rfl, rfl, rfl, rfl⟩ (by kernel_rfl) (by kernel_rfl) (by kernel_rfl) [4, 8] (by kernel_rfl) (fun _ _ _ h => h) hS (fun w' hSw => ?_) ?_
  rotate_left
  · obtain ⟨s0, s1, s2⟩ := hSw
    unfold bareOp
    go_simp
    try with_reducible rfl
  simp only [Act.put, List.setIfInBounds_toArray, List.set_cons_zero, List.set_cons_succ]
  refine wpAnyB_takeP (i := 3) (some 18) (Op.move (Operand.tmp 2)) 22 (v := ?_) ⟨_, rfl, rfl, rfl, rfl, rfl⟩ (by kernel_rfl) (by kernel_rfl) (by kernel_rfl) (by kernel_rfl) (fun _ _ _ h => h) (fun _ => hS) (fun w' => ?_) ?_
  rotate_left
  · unfold bareOp
    go_simp
    try with_reducible rfl
  simp only [Act.put, List.setIfInBounds_toArray, List.set_cons_zero, List.set_cons_succ]
  refine wpAnyB_take (i := 5) (some 20) (Op.load 24 (Operand.tmp 5)) 24 (v := ?_) ⟨_, rfl, rfl, rfl, rfl, rfl⟩ (by kernel_rfl) (by kernel_rfl) (by kernel_rfl) [8] (by kernel_rfl) (fun _ _ _ h => h) hS (fun w' hSw => ?_) ?_
  rotate_left
  · obtain ⟨s0, s1, s2⟩ := hSw
    unfold bareOp
    go_simp
    try with_reducible rfl
  simp only [Act.put, List.setIfInBounds_toArray, List.set_cons_zero, List.set_cons_succ]
  refine wpAnyB_takeP (i := 6) (some 21) (Op.move (Operand.tmp 1)) 22 (v := ?_) ⟨_, rfl, rfl, rfl, rfl, rfl⟩ (by kernel_rfl) (by kernel_rfl) (by kernel_rfl) (by kernel_rfl) (fun _ _ _ h => h) (fun _ => hS) (fun w' => ?_) ?_
  rotate_left
  · unfold bareOp
    go_simp
    try with_reducible rfl
  simp only [Act.put, List.setIfInBounds_toArray, List.set_cons_zero, List.set_cons_succ]
  refine wpAnyB_takeP (i := 7) (some 22) (Op.move (Operand.tmp 2)) 22 (v := ?_) ⟨_, rfl, rfl, rfl, rfl, rfl⟩ (by kernel_rfl) (by kernel_rfl) (by kernel_rfl) (by kernel_rfl) (fun _ _ _ h => h) (fun _ => hS) (fun w' => ?_) ?_
  rotate_left
  · unfold bareOp
    go_simp
    try with_reducible rfl
  simp only [Act.put, List.setIfInBounds_toArray, List.set_cons_zero, List.set_cons_succ]
  refine wpAnyB_only (i := 4) (some 19) (Op.call { callee := Callee.value (Operand.func 66), args := #[Operand.tmp 15, Operand.tmp 17, Operand.tmp 18], argTypes := #[24, 22, 22] }) 22 ⟨_, rfl, rfl, rfl, rfl, rfl⟩ (by kernel_rfl) (fun K hK => ?_)
  unfold bareOp
  go_wp2_with (go_at_call 66; refine (r31Power_any _ hP1 PM hG hGM UX.out HY.out).mono ?_; rintro e w1 ⟨rfl, hb1⟩)
  replace F_g := Lib.hid (F_g.out.keep hb1)
  replace F_r := Lib.hid (F_r.out.keep hb1)
  replace HBW := Lib.hid (HBW.out.trans (hb1.mono HBW.out.size))
  replace hS := F_g.out.s
  clear hb1
  refine hK.out _ _ (fun _ => hS) ?_
  clear hK K
  try simp only [Act.put, List.setIfInBounds_toArray, List.set_cons_zero, List.set_cons_succ]
  refine wpAnyB_only (i := 8) (some 23) (Op.call { callee := Callee.value (Operand.func 66), args := #[Operand.tmp 20, Operand.tmp 21, Operand.tmp 22], argTypes := #[24, 22, 22] }) 22 ⟨_, rfl, rfl, rfl, rfl, rfl⟩ (by kernel_rfl) (fun K hK => ?_)
  unfold bareOp
  go_wp2_with (go_at_call 66; refine (r31Power_any _ hP1 PM a0 aM UX.out HD_.out).mono ?_; rintro e w2 ⟨rfl, hb2⟩)
  replace F_g := Lib.hid (F_g.out.keep hb2)
  replace F_r := Lib.hid (F_r.out.keep hb2)
  replace HBW := Lib.hid (HBW.out.trans (hb2.mono HBW.out.size))
  replace hS := F_g.out.s
  clear hb2
  refine hK.out _ _ (fun h => absurd (h.symm.trans (by kernel_rfl : _ = true)) (by decide)) ?_
  clear hK K
  try simp only [Act.put, List.setIfInBounds_toArray, List.set_cons_zero, List.set_cons_succ]
  refine wpAnyB_takeP (i := 9) (some 11) (Op.assign (Operand.tmp 19)) 22 (v := ?_) ⟨_, rfl, rfl, rfl, rfl, rfl⟩ (by kernel_rfl) (by kernel_rfl) (by kernel_rfl) (by kernel_rfl) (fun _ _ _ h => h) (fun h => absurd (h.symm.trans (by kernel_rfl : _ = true)) (by decide)) (fun w' => ?_) ?_
  rotate_left
  · unfold bareOp
    go_simp
    try with_reducible rfl
  simp only [Act.put, List.setIfInBounds_toArray, List.set_cons_zero, List.set_cons_succ]
  refine wpAnyB_takeP (i := 10) (some 12) (Op.assign (Operand.tmp 23)) 22 (v := ?_) ⟨_, rfl, rfl, rfl, rfl, rfl⟩ (by kernel_rfl) (by kernel_rfl) (by kernel_rfl) (by kernel_rfl) (fun _ _ _ h => h) (fun h => absurd (h.symm.trans (by kernel_rfl : _ = true)) (by decide)) (fun w' => ?_) ?_
  rotate_left
  · unfold bareOp
    go_simp
    try with_reducible rfl
  simp only [Act.put, List.setIfInBounds_toArray, List.set_cons_zero, List.set_cons_succ]
  refine wpAnyB_done (by kernel_rfl) ?_ _
  obtain ⟨q1_0, q1_1, q1_2, q1_3, q1_4, q1_5⟩ := Arr.k3 F_r.out
  obtain ⟨x0a, x0b, x0c, -⟩ := id F_g.out
  go_wp2_with fail
  clear x0a x0b x0c q1_0 q1_1 q1_2 q1_3 q1_4 q1_5
  go_cut [13] from 24 (fun c13 wx => ∃ Bp : Nat, c13 = .pointer (some ⟨Bp, 0, none⟩) ∧ Hid (EqIn w wx P Q G Bp R S 0))
  case first =>
    replace F_g := Lib.hid F_g.out.drew
    replace F_r := Lib.hid F_r.out.drew
    replace HBW := Lib.hid HBW.out.drew
    refine wp_region_stage 8 (fun w' => SBox w' w.heap.size P Q G) (by kernel_rfl) ?_
    generalize w2.drew = wd2 at HBW F_g F_r ⊢
    have hS := F_g.out.s
    refine wpAnyB_take (i := 0) (some 24) (Op.load 24 (Operand.tmp 5)) 24 (v := ?_) ⟨_, rfl, rfl, rfl, rfl, rfl⟩ (by kernel_rfl) (by kernel_rfl) (by kernel_rfl) [4, 8] (by kernel_rfl) (fun _ _ _ h => h) hS (fun w' hSw => ?_) ?_
    rotate_left
    · obtain ⟨s0, s1, s2⟩ := hSw
      unfold bareOp
      go_simp
      try with_reducible rfl
    simp only [Act.put, List.setIfInBounds_toArray, List.set_cons_zero, List.set_cons_succ]
    refine wpAnyB_takeP (i := 1) (some 25) (Op.fieldAddr 24 (Operand.tmp 5) 2) 0 (v := ?_) ⟨_, rfl, rfl, rfl, rfl, rfl⟩ (by kernel_rfl) (by kernel_rfl) (by kernel_rfl) (by kernel_rfl) (fun _ _ _ h => h) (fun _ => hS) (fun w' => ?_) ?_
    rotate_left
    · unfold bareOp
      go_simp
      try with_reducible rfl
    simp only [Act.put, List.setIfInBounds_toArray, List.set_cons_zero, List.set_cons_succ]
    refine wpAnyB_take (i := 2) (some 26) (Op.load 22 (Operand.tmp 25)) 22 (v := ?_) ⟨_, rfl, rfl, rfl, rfl, rfl⟩ (by kernel_rfl) (by kernel_rfl) (by kernel_rfl) [4, 8] (by kernel_rfl) (fun _ _ _ h => h) hS (fun w' hSw => ?_) ?_
    rotate_left
    · obtain ⟨s0, s1, s2⟩ := hSw
      unfold bareOp
      go_simp
      try with_reducible rfl
    simp only [Act.put, List.setIfInBounds_toArray, List.set_cons_zero, List.set_cons_succ]
    refine wpAnyB_takeP (i := 3) (some 27) (Op.move (Operand.tmp 3)) 22 (v := ?_) ⟨_, rfl, rfl, rfl, rfl, rfl⟩ (by kernel_rfl) (by kernel_rfl) (by kernel_rfl) (by kernel_rfl) (fun _ _ _ h => h) (fun _ => hS) (fun w' => ?_) ?_
    rotate_left
    · unfold bareOp
      go_simp
      try with_reducible rfl
    simp only [Act.put, List.setIfInBounds_toArray, List.set_cons_zero, List.set_cons_succ]
    refine wpAnyB_take (i := 5) (some 29) (Op.load 24 (Operand.tmp 5)) 24 (v := ?_) ⟨_, rfl, rfl, rfl, rfl, rfl⟩ (by kernel_rfl) (by kernel_rfl) (by kernel_rfl) [8] (by kernel_rfl) (fun _ _ _ h => h) hS (fun w' hSw => ?_) ?_
    rotate_left
    · obtain ⟨s0, s1, s2⟩ := hSw
      unfold bareOp
      go_simp
      try with_reducible rfl
    simp only [Act.put, List.setIfInBounds_toArray, List.set_cons_zero, List.set_cons_succ]
    refine wpAnyB_takeP (i := 6) (some 30) (Op.move (Operand.tmp 1)) 22 (v := ?_) ⟨_, rfl, rfl, rfl, rfl, rfl⟩ (by kernel_rfl) (by kernel_rfl) (by kernel_rfl) (by kernel_rfl) (fun _ _ _ h => h) (fun _ => hS) (fun w' => ?_) ?_
    rotate_left
    · unfold bareOp
      go_simp
      try with_reducible rfl
    simp only [Act.put, List.setIfInBounds_toArray, List.set_cons_zero, List.set_cons_succ]
    refine wpAnyB_takeP (i := 7) (some 31) (Op.move (Operand.tmp 3)) 22 (v := ?_) ⟨_, rfl, rfl, rfl, rfl, rfl⟩ (by kernel_rfl) (by kernel_rfl) (by kernel_rfl) (by kernel_rfl) (fun _ _ _ h => h) (fun _ => hS) (fun w' => ?_) ?_
    rotate_left
    · unfold bareOp
      go_simp
      try with_reducible rfl
    simp only [Act.put, List.setIfInBounds_toArray, List.set_cons_zero, List.set_cons_succ]
    refine wpAnyB_two (i := 4) (j := 10) (some 28) (Op.call { callee := Callee.value (Operand.func 66), args := #[Operand.tmp 24, Operand.tmp 26, Operand.tmp 27], argTypes := #[24, 22, 22] }) 22 (some 13) (Op.alloc 26) 0 ⟨_, rfl, rfl, rfl, rfl, rfl⟩ ⟨_, rfl, rfl, rfl, rfl, rfl⟩ (by kernel_rfl) (fun K hK => ?_) (fun K hK => ?_)
    · skip
      unfold bareOp
      go_wp2_with (go_at_call 66; refine (r31Power_any _ hP1 PM hG hGM UK.out HRK.out).mono ?_; rintro e w21 ⟨rfl, hb21⟩)
      replace F_g := Lib.hid (F_g.out.keep hb21)
      replace F_r := Lib.hid (F_r.out.keep hb21)
      replace HBW := Lib.hid (HBW.out.trans (hb21.mono HBW.out.size))
      replace hS := F_g.out.s
      clear hb21
      refine hK.out _ _ (fun _ => hS) ?_
      clear hK K
      try simp only [Act.put, List.setIfInBounds_toArray, List.set_cons_zero, List.set_cons_succ]
      refine wpAnyB_two (i := 8) (j := 10) (some 32) (Op.call { callee := Callee.value (Operand.func 66), args := #[Operand.tmp 29, Operand.tmp 30, Operand.tmp 31], argTypes := #[24, 22, 22] }) 22 (some 13) (Op.alloc 26) 0 ⟨_, rfl, rfl, rfl, rfl, rfl⟩ ⟨_, rfl, rfl, rfl, rfl, rfl⟩ (by kernel_rfl) (fun K hK => ?_) (fun K hK => ?_)
      · skip
        unfold bareOp
        go_wp2_with (go_at_call 66; refine (r31Power_any _ hP1 PM a0 aM UK.out HSK.out).mono ?_; rintro e w22 ⟨rfl, hb22⟩)
        replace F_g := Lib.hid (F_g.out.keep hb22)
        replace F_r := Lib.hid (F_r.out.keep hb22)
        replace HBW := Lib.hid (HBW.out.trans (hb22.mono HBW.out.size))
        replace hS := F_g.out.s
        clear hb22
        refine hK.out _ _ (fun h => absurd (h.symm.trans (by kernel_rfl : _ = true)) (by decide)) ?_
        clear hK K
        try simp only [Act.put, List.setIfInBounds_toArray, List.set_cons_zero, List.set_cons_succ]
        refine wpAnyB_takeP (i := 9) (some 33) (Op.build 26 #[(0, Operand.tmp 28), (1, Operand.tmp 32)]) 26 (v := ?_) ⟨_, rfl, rfl, rfl, rfl, rfl⟩ (by kernel_rfl) (by kernel_rfl) (by kernel_rfl) (by kernel_rfl) (fun _ _ _ h => h) (fun h => absurd (h.symm.trans (by kernel_rfl : _ = true)) (by decide)) (fun w' => ?_) ?_
        rotate_left
        · unfold bareOp
          go_simp
          try with_reducible rfl
        simp only [Act.put, List.setIfInBounds_toArray, List.set_cons_zero, List.set_cons_succ]
        refine wpAnyB_only (i := 10) (some 13) (Op.alloc 26) 0 ⟨_, rfl, rfl, rfl, rfl, rfl⟩ (by kernel_rfl) (fun K hK => ?_)
        unfold bareOp
        go_wp2_with fail
        have lt_g := F_g.out.lt
        replace F_g := Lib.hid (F_g.out.alloc (.cells #[.int .u64 0, .int .u64 0, .int .u64 0] 26))
        have lt_r := F_r.out.lt
        replace F_r := Lib.hid (F_r.out.alloc (.cells #[.int .u64 0, .int .u64 0, .int .u64 0] 26))
        have F_p := Lib.hid (show Arr .u64 (w22.alloc (.cells #[.int .u64 0, .int .u64 0, .int .u64 0] 26)) w22.heap.size [0, 0, 0] from Arr.new .u64 w22 [0, 0, 0] _ _ rfl)
        have hle := HBW.out.size
        have hbl : w.heap.size + 2 ≤ w22.heap.size := lt_r
        replace HBW := Lib.hid (HBW.out.alloc HBW.out.size (.cells #[.int .u64 0, .int .u64 0, .int .u64 0] 26))
        replace hS := F_g.out.s
        generalize w22.alloc (.cells #[.int .u64 0, .int .u64 0, .int .u64 0] 26) = w23 at F_p HBW hS F_g F_r ⊢
        refine hK.out _ _ (fun h => absurd (h.symm.trans (by kernel_rfl : _ = true)) (by decide)) ?_
        clear hK K
        try simp only [Act.put, List.setIfInBounds_toArray, List.set_cons_zero, List.set_cons_succ]
        refine wpAnyB_only (i := 11) none (Op.store 26 (Operand.tmp 13) (Operand.tmp 33)) 0 ⟨_, rfl, rfl, rfl, rfl, rfl⟩ (by kernel_rfl) (fun K hK => ?_)
        unfold bareOp
        obtain ⟨z0, z1, z2, z3, z4, z5⟩ := Arr.k3 F_p.out
        go_wp2_with fail
        clear z0 z1 z2 z3 z4 z5
        have hbS := ((((Below.refl w22.heap.size w23).setCell (p := ⟨w22.heap.size, 0, none⟩) (Nat.le_refl _) (.int .u64 R)).setCell (p := ⟨w22.heap.size, 1, none⟩) (Nat.le_refl _) (.int .u64 S)).setCell (p := ⟨w22.heap.size, 2, none⟩) (Nat.le_refl _) (.int .u64 0))
        replace F_g := Lib.hid (F_g.out.under hbS lt_g)
        clear lt_g
        replace F_r := Lib.hid (F_r.out.under hbS lt_r)
        clear lt_r
        replace F_p := Lib.hid (F_p.out.st3 R S 0)
        replace HBW := Lib.hid (HBW.out.trans (hbS.mono hle))
        clear hbS hS
        refine hK.out _ _ (fun h => absurd (h.symm.trans (by kernel_rfl : _ = true)) (by decide)) ?_
        clear hK K
        try simp only [Act.put, List.setIfInBounds_toArray, List.set_cons_zero, List.set_cons_succ]
        refine wpAnyB_done (by kernel_rfl) ?_ _
        go_wp2_with fail
        go_meet
        case rel => exact ⟨_, rfl, ⟨F_g.out, F_r.out, F_p.out, hbl, HBW.out⟩⟩
      · skip
        unfold bareOp
        go_wp2_with fail
        have lt_g := F_g.out.lt
        replace F_g := Lib.hid (F_g.out.alloc (.cells #[.int .u64 0, .int .u64 0, .int .u64 0] 26))
        have lt_r := F_r.out.lt
        replace F_r := Lib.hid (F_r.out.alloc (.cells #[.int .u64 0, .int .u64 0, .int .u64 0] 26))
        have F_p := Lib.hid (show Arr .u64 (w21.alloc (.cells #[.int .u64 0, .int .u64 0, .int .u64 0] 26)) w21.heap.size [0, 0, 0] from Arr.new .u64 w21 [0, 0, 0] _ _ rfl)
        have hle := HBW.out.size
        have hbl : w.heap.size + 2 ≤ w21.heap.size := lt_r
        replace HBW := Lib.hid (HBW.out.alloc HBW.out.size (.cells #[.int .u64 0, .int .u64 0, .int .u64 0] 26))
        replace hS := F_g.out.s
        generalize w21.alloc (.cells #[.int .u64 0, .int .u64 0, .int .u64 0] 26) = w25 at F_p HBW hS F_g F_r ⊢
        refine hK.out _ _ (fun _ => hS) ?_
        clear hK K
        try simp only [Act.put, List.setIfInBounds_toArray, List.set_cons_zero, List.set_cons_succ]
        refine wpAnyB_only (i := 8) (some 32) (Op.call { callee := Callee.value (Operand.func 66), args := #[Operand.tmp 29, Operand.tmp 30, Operand.tmp 31], argTypes := #[24, 22, 22] }) 22 ⟨_, rfl, rfl, rfl, rfl, rfl⟩ (by kernel_rfl) (fun K hK => ?_)
        unfold bareOp
        go_wp2_with (go_at_call 66; refine (r31Power_any _ hP1 PM a0 aM UK.out HSK.out).mono ?_; rintro e w26 ⟨rfl, hb26⟩)
        replace F_g := Lib.hid (F_g.out.keep hb26)
        replace F_r := Lib.hid (F_r.out.keep hb26)
        replace F_p := Lib.hid (F_p.out.keep hb26)
        replace HBW := Lib.hid (HBW.out.trans (hb26.mono HBW.out.size))
        replace hS := F_g.out.s
        clear hb26
        refine hK.out _ _ (fun h => absurd (h.symm.trans (by kernel_rfl : _ = true)) (by decide)) ?_
        clear hK K
        try simp only [Act.put, List.setIfInBounds_toArray, List.set_cons_zero, List.set_cons_succ]
        refine wpAnyB_takeP (i := 9) (some 33) (Op.build 26 #[(0, Operand.tmp 28), (1, Operand.tmp 32)]) 26 (v := ?_) ⟨_, rfl, rfl, rfl, rfl, rfl⟩ (by kernel_rfl) (by kernel_rfl) (by kernel_rfl) (by kernel_rfl) (fun _ _ _ h => h) (fun h => absurd (h.symm.trans (by kernel_rfl : _ = true)) (by decide)) (fun w' => ?_) ?_
        rotate_left
        · unfold bareOp
          go_simp
          try with_reducible rfl
        simp only [Act.put, List.setIfInBounds_toArray, List.set_cons_zero, List.set_cons_succ]
        refine wpAnyB_only (i := 11) none (Op.store 26 (Operand.tmp 13) (Operand.tmp 33)) 0 ⟨_, rfl, rfl, rfl, rfl, rfl⟩ (by kernel_rfl) (fun K hK => ?_)
        unfold bareOp
        obtain ⟨z0, z1, z2, z3, z4, z5⟩ := Arr.k3 F_p.out
        go_wp2_with fail
        clear z0 z1 z2 z3 z4 z5
        have hbS := ((((Below.refl w21.heap.size w26).setCell (p := ⟨w21.heap.size, 0, none⟩) (Nat.le_refl _) (.int .u64 R)).setCell (p := ⟨w21.heap.size, 1, none⟩) (Nat.le_refl _) (.int .u64 S)).setCell (p := ⟨w21.heap.size, 2, none⟩) (Nat.le_refl _) (.int .u64 0))
        replace F_g := Lib.hid (F_g.out.under hbS lt_g)
        clear lt_g
        replace F_r := Lib.hid (F_r.out.under hbS lt_r)
        clear lt_r
        replace F_p := Lib.hid (F_p.out.st3 R S 0)
        replace HBW := Lib.hid (HBW.out.trans (hbS.mono hle))
        clear hbS hS
        refine hK.out _ _ (fun h => absurd (h.symm.trans (by kernel_rfl : _ = true)) (by decide)) ?_
        clear hK K
        try simp only [Act.put, List.setIfInBounds_toArray, List.set_cons_zero, List.set_cons_succ]
        refine wpAnyB_done (by kernel_rfl) ?_ _
        go_wp2_with fail
        go_meet
        case rel => exact ⟨_, rfl, ⟨F_g.out, F_r.out, F_p.out, hbl, HBW.out⟩⟩
    · skip
      unfold bareOp
      go_wp2_with fail
      have lt_g := F_g.out.lt
      replace F_g := Lib.hid (F_g.out.alloc (.cells #[.int .u64 0, .int .u64 0, .int .u64 0] 26))
      have lt_r := F_r.out.lt
      replace F_r := Lib.hid (F_r.out.alloc (.cells #[.int .u64 0, .int .u64 0, .int .u64 0] 26))
      have F_p := Lib.hid (show Arr .u64 (wd2.alloc (.cells #[.int .u64 0, .int .u64 0, .int .u64 0] 26)) wd2.heap.size [0, 0, 0] from Arr.new .u64 wd2 [0, 0, 0] _ _ rfl)
      have hle := HBW.out.size
      have hbl : w.heap.size + 2 ≤ wd2.heap.size := lt_r
      replace HBW := Lib.hid (HBW.out.alloc HBW.out.size (.cells #[.int .u64 0, .int .u64 0, .int .u64 0] 26))
      replace hS := F_g.out.s
      generalize wd2.alloc (.cells #[.int .u64 0, .int .u64 0, .int .u64 0] 26) = w28 at F_p HBW hS F_g F_r ⊢
      refine hK.out _ _ (fun _ => hS) ?_
      clear hK K
      try simp only [Act.put, List.setIfInBounds_toArray, List.set_cons_zero, List.set_cons_succ]
      refine wpAnyB_only (i := 4) (some 28) (Op.call { callee := Callee.value (Operand.func 66), args := #[Operand.tmp 24, Operand.tmp 26, Operand.tmp 27], argTypes := #[24, 22, 22] }) 22 ⟨_, rfl, rfl, rfl, rfl, rfl⟩ (by kernel_rfl) (fun K hK => ?_)
      unfold bareOp
      go_wp2_with (go_at_call 66; refine (r31Power_any _ hP1 PM hG hGM UK.out HRK.out).mono ?_; rintro e w29 ⟨rfl, hb29⟩)
      replace F_g := Lib.hid (F_g.out.keep hb29)
      replace F_r := Lib.hid (F_r.out.keep hb29)
      replace F_p := Lib.hid (F_p.out.keep hb29)
      replace HBW := Lib.hid (HBW.out.trans (hb29.mono HBW.out.size))
      replace hS := F_g.out.s
      clear hb29
      refine hK.out _ _ (fun _ => hS) ?_
      clear hK K
      try simp only [Act.put, List.setIfInBounds_toArray, List.set_cons_zero, List.set_cons_succ]
      refine wpAnyB_only (i := 8) (some 32) (Op.call { callee := Callee.value (Operand.func 66), args := #[Operand.tmp 29, Operand.tmp 30, Operand.tmp 31], argTypes := #[24, 22, 22] }) 22 ⟨_, rfl, rfl, rfl, rfl, rfl⟩ (by kernel_rfl) (fun K hK => ?_)
      unfold bareOp
      go_wp2_with (go_at_call 66; refine (r31Power_any _ hP1 PM a0 aM UK.out HSK.out).mono ?_; rintro e w30 ⟨rfl, hb30⟩)
      replace F_g := Lib.hid (F_g.out.keep hb30)
      replace F_r := Lib.hid (F_r.out.keep hb30)
      replace F_p := Lib.hid (F_p.out.keep hb30)
      replace HBW := Lib.hid (HBW.out.trans (hb30.mono HBW.out.size))
      replace hS := F_g.out.s
      clear hb30
      refine hK.out _ _ (fun h => absurd (h.symm.trans (by kernel_rfl : _ = true)) (by decide)) ?_
      clear hK K
      try simp only [Act.put, List.setIfInBounds_toArray, List.set_cons_zero, List.set_cons_succ]
      refine wpAnyB_takeP (i := 9) (some 33) (Op.build 26 #[(0, Operand.tmp 28), (1, Operand.tmp 32)]) 26 (v := ?_) ⟨_, rfl, rfl, rfl, rfl, rfl⟩ (by kernel_rfl) (by kernel_rfl) (by kernel_rfl) (by kernel_rfl) (fun _ _ _ h => h) (fun h => absurd (h.symm.trans (by kernel_rfl : _ = true)) (by decide)) (fun w' => ?_) ?_
      rotate_left
      · unfold bareOp
        go_simp
        try with_reducible rfl
      simp only [Act.put, List.setIfInBounds_toArray, List.set_cons_zero, List.set_cons_succ]
      refine wpAnyB_only (i := 11) none (Op.store 26 (Operand.tmp 13) (Operand.tmp 33)) 0 ⟨_, rfl, rfl, rfl, rfl, rfl⟩ (by kernel_rfl) (fun K hK => ?_)
      unfold bareOp
      obtain ⟨z0, z1, z2, z3, z4, z5⟩ := Arr.k3 F_p.out
      go_wp2_with fail
      clear z0 z1 z2 z3 z4 z5
      have hbS := ((((Below.refl wd2.heap.size w30).setCell (p := ⟨wd2.heap.size, 0, none⟩) (Nat.le_refl _) (.int .u64 R)).setCell (p := ⟨wd2.heap.size, 1, none⟩) (Nat.le_refl _) (.int .u64 S)).setCell (p := ⟨wd2.heap.size, 2, none⟩) (Nat.le_refl _) (.int .u64 0))
      replace F_g := Lib.hid (F_g.out.under hbS lt_g)
      clear lt_g
      replace F_r := Lib.hid (F_r.out.under hbS lt_r)
      clear lt_r
      replace F_p := Lib.hid (F_p.out.st3 R S 0)
      replace HBW := Lib.hid (HBW.out.trans (hbS.mono hle))
      clear hbS hS
      refine hK.out _ _ (fun h => absurd (h.symm.trans (by kernel_rfl : _ = true)) (by decide)) ?_
      clear hK K
      try simp only [Act.put, List.setIfInBounds_toArray, List.set_cons_zero, List.set_cons_succ]
      refine wpAnyB_done (by kernel_rfl) ?_ _
      go_wp2_with fail
      go_meet
      case rel => exact ⟨_, rfl, ⟨F_g.out, F_r.out, F_p.out, hbl, HBW.out⟩⟩
  case rest =>
    clear F_g F_r HBW
    obtain ⟨Bp, rfl, HE⟩ := hcut
    have F_g := Lib.hid HE.out.g
    have F_r := Lib.hid HE.out.r
    have F_p := Lib.hid HE.out.p
    have HBW := Lib.hid HE.out.bel
    have hne := HE.out.ne
    clear HE
    obtain ⟨q1_0, q1_1, q1_2, q1_3, q1_4, q1_5⟩ := Arr.k3 F_r.out
    obtain ⟨q2_0, q2_1, q2_2, q2_3, q2_4, q2_5⟩ := Arr.k3 F_p.out
    obtain ⟨x0a, x0b, x0c, -⟩ := id F_g.out
    go_wp2_with fail
    clear x0a x0b x0c q1_0 q1_1 q1_2 q1_3 q1_4 q1_5 q2_0 q2_1 q2_2 q2_3 q2_4 q2_5
    replace F_g := Lib.hid (F_g.out.alloc (.cells #[.int .u64 y, .int .u64 a, .int .u64 d, .int .u64 R, .int .u64 S] 22))
    replace F_r := Lib.hid (F_r.out.alloc (.cells #[.int .u64 y, .int .u64 a, .int .u64 d, .int .u64 R, .int .u64 S] 22))
    replace F_p := Lib.hid (F_p.out.alloc (.cells #[.int .u64 y, .int .u64 a, .int .u64 d, .int .u64 R, .int .u64 S] 22))
    have F_ms := Lib.hid (ShL.laid wc [y, a, d, R, S] _ 22 _ 5 5 rfl rfl rfl)
    replace HBW := Lib.hid (HBW.out.alloc HBW.out.size (.cells #[.int .u64 y, .int .u64 a, .int .u64 d, .int .u64 R, .int .u64 S] 22))
    refine (rOf31_any _ (HT.out.keep HBW.out) HH.out F_ms.out HUS.out (by simp) (by simp) (by omega) HCC.out).mono ?_
    rintro e w41 ⟨rfl, hb41⟩
    replace F_g := Lib.hid (F_g.out.keep hb41)
    replace F_r := Lib.hid (F_r.out.keep hb41)
    replace F_p := Lib.hid (F_p.out.keep hb41)
    replace F_ms := Lib.hid (F_ms.out.keep hb41)
    replace HBW := Lib.hid (HBW.out.trans (hb41.mono HBW.out.size))
    clear hb41
    clear F_ms
    obtain ⟨q1_0, q1_1, q1_2, q1_3, q1_4, q1_5⟩ := Arr.k3 F_r.out
    obtain ⟨q2_0, q2_1, q2_2, q2_3, q2_4, q2_5⟩ := Arr.k3 F_p.out
    obtain ⟨x0a, x0b, x0c, -⟩ := id F_g.out
    go_wp2_with fail
    clear x0a x0b x0c q1_0 q1_1 q1_2 q1_3 q1_4 q1_5 q2_0 q2_1 q2_2 q2_3 q2_4 q2_5
    refine (rtold_any _ HH.out x0 xQ k0 kQ h0 hQQ HMM.out HZM.out).mono ?_
    rintro e w42 ⟨rfl, hb42⟩
    replace F_g := Lib.hid (F_g.out.keep hb42)
    replace F_r := Lib.hid (F_r.out.keep hb42)
    replace F_p := Lib.hid (F_p.out.keep hb42)
    replace HBW := Lib.hid (HBW.out.trans (hb42.mono HBW.out.size))
    clear hb42
    obtain ⟨q1_0, q1_1, q1_2, q1_3, q1_4, q1_5⟩ := Arr.k3 F_r.out
    obtain ⟨q2_0, q2_1, q2_2, q2_3, q2_4, q2_5⟩ := Arr.k3 F_p.out
    obtain ⟨x0a, x0b, x0c, -⟩ := id F_g.out
    go_wp2_with fail
    clear x0a x0b x0c q1_0 q1_1 q1_2 q1_3 q1_4 q1_5 q2_0 q2_1 q2_2 q2_3 q2_4 q2_5
    have hr2 : w.heap.size + 1 ≠ Bp := by omega
    exact bodyPost_ret (res_eq1 rfl ((F_r.out.far (Ne.symm hr2) (.int .u64 Z)).st3 R S Z) _ rfl) rfl ⟨rfl, (((HBW.out.setCell (show w.heap.size ≤ Bp by omega) _).setCell (by simp <;> omega) _).setCell (by simp <;> omega) _).setCell (by simp <;> omega) _⟩

set_option maxRecDepth 100000 in
set_option maxHeartbeats 4000000 in
theorem reqProve_any {P Q G a x k R S Z c : Int} {tx : Option Addr} {n cp : Nat} {T : List Int} (w : World) (hT : Txt w tx n T) (hP : 0 ≤ P) (hQ : 0 ≤ Q) (hG : 0 ≤ G) (a0 : 0 ≤ a) (x0 : 0 ≤ x) (k0 : 0 ≤ k) (hn : n ≤ 8100) (h : RetE (lgS (askS P Q G [x, k] [a]) n) (powm G k P) (powm a k P) (eqZ P Q G a x k T) R S Z c) :
    Calls Tryd.prog 11 #[.agg #[.int .u64 P, .int .u64 Q, .int .u64 G], .int .u64 a, .int .u64 x, .int .u64 k, .slice tx n cp] w fun e w' => e = .returned (.tuple #[.agg #[.int .u64 R, .int .u64 S, .int .u64 Z], .int .i64 c]) ∧ Below w.heap.size w w' := by
  have HT := Lib.hid hT
  clear hT
  rcases h with ⟨h, hR, hS, hZ, rfl⟩ | ⟨h, rfl, rfl, rfl, hc⟩
  · obtain ⟨h, hn8⟩ := lgS_zero h
    obtain ⟨hH, he, hnn⟩ := askS_zero h
    have xQ := he x (by simp)
    have kQ := he k (by simp)
    have aP := hnn a (by simp)
    have HR := Lib.hid h
    have HH := Lib.hid hH
    have HLG := Lib.hid (show lgS 0 n = 0 from lgS_ok rfl hn8)
    have HRX := Lib.hid hR
    have HSX := Lib.hid hS
    have HZX := Lib.hid hZ
    clear h he hnn hR hS hZ hH
    have F_g := Lib.hid (show Boxed ((((w.alloc (.cells #[.int .u64 P, .int .u64 Q, .int .u64 G] 24)).alloc (.cells #[.int .u64 0, .int .u64 0, .int .u64 0] 26)).alloc (.cells #[.int .u64 x, .int .u64 k] 22)).alloc (.cells #[.int .u64 a] 22)) (w.heap.size) P Q G from (((Boxed.at _ P Q G _ (w.heap.size) (by simp)).alloc _).alloc _).alloc _)
    have F_es := Lib.hid (show ShL ((((w.alloc (.cells #[.int .u64 P, .int .u64 Q, .int .u64 G] 24)).alloc (.cells #[.int .u64 0, .int .u64 0, .int .u64 0] 26)).alloc (.cells #[.int .u64 x, .int .u64 k] 22)).alloc (.cells #[.int .u64 a] 22)) (some ⟨w.heap.size + 1 + 1, 0, none⟩) 2 2 [x, k] from (ShL.laid _ [x, k] _ _ (w.heap.size + 1 + 1) _ _ (by simp) rfl rfl).alloc _)
    have F_ns := Lib.hid (show ShL ((((w.alloc (.cells #[.int .u64 P, .int .u64 Q, .int .u64 G] 24)).alloc (.cells #[.int .u64 0, .int .u64 0, .int .u64 0] 26)).alloc (.cells #[.int .u64 x, .int .u64 k] 22)).alloc (.cells #[.int .u64 a] 22)) (some ⟨w.heap.size + 1 + 1 + 1, 0, none⟩) 1 1 [a] from ShL.laid _ [a] _ _ (w.heap.size + 1 + 1 + 1) _ _ (by simp) rfl rfl)
    have F_r := Lib.hid (show Arr .u64 ((((w.alloc (.cells #[.int .u64 P, .int .u64 Q, .int .u64 G] 24)).alloc (.cells #[.int .u64 0, .int .u64 0, .int .u64 0] 26)).alloc (.cells #[.int .u64 x, .int .u64 k] 22)).alloc (.cells #[.int .u64 a] 22)) (w.heap.size + 1) [0, 0, 0] from ((Arr.new .u64 _ [0, 0, 0] _ (w.heap.size + 1) (by simp)).alloc _).alloc _)
    have HBW := Lib.hid (show Below w.heap.size w ((((w.alloc (.cells #[.int .u64 P, .int .u64 Q, .int .u64 G] 24)).alloc (.cells #[.int .u64 0, .int .u64 0, .int .u64 0] 26)).alloc (.cells #[.int .u64 x, .int .u64 k] 22)).alloc (.cells #[.int .u64 a] 22)) from ((((Below.refl _ _).alloc (by simp <;> omega) _).alloc (by simp <;> omega) _).alloc (by simp <;> omega) _).alloc (by simp <;> omega) _)
    go_enter Tryd.func11, Tryd.ntmps11
    obtain ⟨q1_0, q1_1, q1_2, q1_3, q1_4, q1_5⟩ := Arr.k3 F_r.out
    obtain ⟨x0a, x0b, x0c, -⟩ := id F_g.out
    go_wp2_with fail
    clear x0a x0b x0c q1_0 q1_1 q1_2 q1_3 q1_4 q1_5
    refine (rAsked_any _ hP hQ hG F_es.out F_ns.out (by simp) (by simp) HR.out).mono ?_
    rintro e w1 ⟨rfl, hb1⟩
    replace F_g := Lib.hid (F_g.out.keep hb1)
    replace F_r := Lib.hid (F_r.out.keep hb1)
    replace F_es := Lib.hid (F_es.out.keep hb1)
    replace F_ns := Lib.hid (F_ns.out.keep hb1)
    replace HBW := Lib.hid (HBW.out.trans (hb1.mono HBW.out.size))
    clear hb1
    clear F_es
    clear F_ns
    obtain ⟨q1_0, q1_1, q1_2, q1_3, q1_4, q1_5⟩ := Arr.k3 F_r.out
    obtain ⟨x0a, x0b, x0c, -⟩ := id F_g.out
    go_wp2_with fail
    clear x0a x0b x0c q1_0 q1_1 q1_2 q1_3 q1_4 q1_5
    refine (rlong_any _ HLG.out).mono ?_
    rintro e w2 ⟨rfl, rfl⟩
    obtain ⟨q1_0, q1_1, q1_2, q1_3, q1_4, q1_5⟩ := Arr.k3 F_r.out
    obtain ⟨x0a, x0b, x0c, -⟩ := id F_g.out
    go_wp2_with fail
    clear x0a x0b x0c q1_0 q1_1 q1_2 q1_3 q1_4 q1_5
    refine (rEqualOf_any _ (HT.out.keep HBW.out) HH.out a0 aP x0 xQ k0 kQ hn8 HRX.out HSX.out HZX.out).mono ?_
    rintro e w3 ⟨rfl, hb3⟩
    replace F_g := Lib.hid (F_g.out.keep hb3)
    replace F_r := Lib.hid (F_r.out.keep hb3)
    replace HBW := Lib.hid (HBW.out.trans (hb3.mono HBW.out.size))
    clear hb3
    obtain ⟨q1_0, q1_1, q1_2, q1_3, q1_4, q1_5⟩ := Arr.k3 F_r.out
    obtain ⟨x0a, x0b, x0c, -⟩ := id F_g.out
    go_wp2_with fail
    exact bodyPost_ret (res_eq rfl (F_r.out.st3 R S Z) _ rfl rfl) rfl ⟨rfl, (((HBW.out).setCell (by simp <;> omega) _).setCell (by simp <;> omega) _).setCell (by simp <;> omega) _⟩
  · obtain ⟨c0, hc0⟩ : ∃ c0, askS P Q G [x, k] [a] = c0 := ⟨_, rfl⟩
    rw [hc0] at hc h
    have hnc : c ≠ 0 := by rw [hc]; exact h
    have hn1 : (c != 0) = true := by simpa using hnc
    have HR := Lib.hid hc0
    have HLG := Lib.hid hc.symm
    clear h hc hc0 hnc
    have F_g := Lib.hid (show Boxed ((((w.alloc (.cells #[.int .u64 P, .int .u64 Q, .int .u64 G] 24)).alloc (.cells #[.int .u64 0, .int .u64 0, .int .u64 0] 26)).alloc (.cells #[.int .u64 x, .int .u64 k] 22)).alloc (.cells #[.int .u64 a] 22)) (w.heap.size) P Q G from (((Boxed.at _ P Q G _ (w.heap.size) (by simp)).alloc _).alloc _).alloc _)
    have F_es := Lib.hid (show ShL ((((w.alloc (.cells #[.int .u64 P, .int .u64 Q, .int .u64 G] 24)).alloc (.cells #[.int .u64 0, .int .u64 0, .int .u64 0] 26)).alloc (.cells #[.int .u64 x, .int .u64 k] 22)).alloc (.cells #[.int .u64 a] 22)) (some ⟨w.heap.size + 1 + 1, 0, none⟩) 2 2 [x, k] from (ShL.laid _ [x, k] _ _ (w.heap.size + 1 + 1) _ _ (by simp) rfl rfl).alloc _)
    have F_ns := Lib.hid (show ShL ((((w.alloc (.cells #[.int .u64 P, .int .u64 Q, .int .u64 G] 24)).alloc (.cells #[.int .u64 0, .int .u64 0, .int .u64 0] 26)).alloc (.cells #[.int .u64 x, .int .u64 k] 22)).alloc (.cells #[.int .u64 a] 22)) (some ⟨w.heap.size + 1 + 1 + 1, 0, none⟩) 1 1 [a] from ShL.laid _ [a] _ _ (w.heap.size + 1 + 1 + 1) _ _ (by simp) rfl rfl)
    have F_r := Lib.hid (show Arr .u64 ((((w.alloc (.cells #[.int .u64 P, .int .u64 Q, .int .u64 G] 24)).alloc (.cells #[.int .u64 0, .int .u64 0, .int .u64 0] 26)).alloc (.cells #[.int .u64 x, .int .u64 k] 22)).alloc (.cells #[.int .u64 a] 22)) (w.heap.size + 1) [0, 0, 0] from ((Arr.new .u64 _ [0, 0, 0] _ (w.heap.size + 1) (by simp)).alloc _).alloc _)
    have HBW := Lib.hid (show Below w.heap.size w ((((w.alloc (.cells #[.int .u64 P, .int .u64 Q, .int .u64 G] 24)).alloc (.cells #[.int .u64 0, .int .u64 0, .int .u64 0] 26)).alloc (.cells #[.int .u64 x, .int .u64 k] 22)).alloc (.cells #[.int .u64 a] 22)) from ((((Below.refl _ _).alloc (by simp <;> omega) _).alloc (by simp <;> omega) _).alloc (by simp <;> omega) _).alloc (by simp <;> omega) _)
    go_enter Tryd.func11, Tryd.ntmps11
    obtain ⟨q1_0, q1_1, q1_2, q1_3, q1_4, q1_5⟩ := Arr.k3 F_r.out
    obtain ⟨x0a, x0b, x0c, -⟩ := id F_g.out
    go_wp2_with fail
    clear x0a x0b x0c q1_0 q1_1 q1_2 q1_3 q1_4 q1_5
    refine (rAsked_any _ hP hQ hG F_es.out F_ns.out (by simp) (by simp) HR.out).mono ?_
    rintro e w1 ⟨rfl, hb1⟩
    replace F_g := Lib.hid (F_g.out.keep hb1)
    replace F_r := Lib.hid (F_r.out.keep hb1)
    replace F_es := Lib.hid (F_es.out.keep hb1)
    replace F_ns := Lib.hid (F_ns.out.keep hb1)
    replace HBW := Lib.hid (HBW.out.trans (hb1.mono HBW.out.size))
    clear hb1
    clear F_es
    clear F_ns
    obtain ⟨q1_0, q1_1, q1_2, q1_3, q1_4, q1_5⟩ := Arr.k3 F_r.out
    obtain ⟨x0a, x0b, x0c, -⟩ := id F_g.out
    go_wp2_with fail
    clear x0a x0b x0c q1_0 q1_1 q1_2 q1_3 q1_4 q1_5
    refine (rlong_any _ HLG.out).mono ?_
    rintro e w2 ⟨rfl, rfl⟩
    obtain ⟨q1_0, q1_1, q1_2, q1_3, q1_4, q1_5⟩ := Arr.k3 F_r.out
    obtain ⟨x0a, x0b, x0c, -⟩ := id F_g.out
    go_wp2_with fail
    exact bodyPost_ret (res_eq rfl (F_r.out.st3 0 0 0) _ rfl rfl) rfl ⟨rfl, (((HBW.out).setCell (by simp <;> omega) _).setCell (by simp <;> omega) _).setCell (by simp <;> omega) _⟩

set_option maxRecDepth 100000 in
set_option maxHeartbeats 4000000 in
theorem rEqualIs_any {P Q G y a d R S Z c : Int} {v : Bool} (w : World) (hH : Has P Q G) (y0 : 0 ≤ y) (yP : y < P) (a0 : 0 ≤ a) (aP : a < P) (d0 : 0 ≤ d) (dP : d < P) (R0 : 0 ≤ R) (RP : R < P) (S0 : 0 ≤ S) (SP : S < P) (uz : U64 Z) (uc : U64 c) (hv : v = true ↔ powm G Z P = R * powm y c P % P ∧ powm a Z P = S * powm d c P % P) :
    Calls Tryd.prog 38 #[.agg #[.int .u64 P, .int .u64 Q, .int .u64 G], .int .u64 y, .int .u64 a, .int .u64 d, .agg #[.int .u64 R, .int .u64 S, .int .u64 Z], .int .u64 c] w fun e w' => e = .returned (.bool v) ∧ Below w.heap.size w w' := by
  have HV := Lib.hid hv
  have UZ := Lib.hid uz
  have UC := Lib.hid uc
  clear hv uz uc
  obtain ⟨p5, p3, hQ', pq, g2, gP⟩ := id hH
  have hP1 : 1 ≤ P := by omega
  have hGM : G < 2147483648 := by omega
  have q3 : Q < 1073741824 := by omega
  have q2 : 2 ≤ Q := by omega
  have HH := Lib.hid hH
  clear hH pq
  have hG : 0 ≤ G := by omega
  have PM : P < 2147483648 := by omega
  by_cases hE : powm G Z P = R * powm y c P % P
  case neg =>
    have HE := Lib.hid hE
    have HZ := Lib.hid (show false = v by rw [Bool.eq_iff_iff, HV.out]; exact ⟨fun h => (by cases h), fun h => absurd h.1 HE.out⟩)
    clear hE
    have F_g := Lib.hid (show Boxed ((w.alloc (.cells #[.int .u64 P, .int .u64 Q, .int .u64 G] 24)).alloc (.cells #[.int .u64 R, .int .u64 S, .int .u64 Z] 26)) (w.heap.size) P Q G from (Boxed.at _ P Q G _ (w.heap.size) (by simp)).alloc _)
    have F_p := Lib.hid (show Arr .u64 ((w.alloc (.cells #[.int .u64 P, .int .u64 Q, .int .u64 G] 24)).alloc (.cells #[.int .u64 R, .int .u64 S, .int .u64 Z] 26)) (w.heap.size + 1) [R, S, Z] from Arr.new .u64 _ [R, S, Z] _ (w.heap.size + 1) (by simp))
    have HBW := Lib.hid (show Below w.heap.size w ((w.alloc (.cells #[.int .u64 P, .int .u64 Q, .int .u64 G] 24)).alloc (.cells #[.int .u64 R, .int .u64 S, .int .u64 Z] 26)) from ((Below.refl _ _).alloc (by simp <;> omega) _).alloc (by simp <;> omega) _)
    go_enter Tryd.func38, Tryd.ntmps38
    obtain ⟨q1_0, q1_1, q1_2, q1_3, q1_4, q1_5⟩ := Arr.k3 F_p.out
    obtain ⟨x0a, x0b, x0c, -⟩ := id F_g.out
    go_wp2_with fail
    clear x0a x0b x0c q1_0 q1_1 q1_2 q1_3 q1_4 q1_5
    refine (reven_any (v := false) _ hP1 PM hG gP y0 yP R0 RP UC.out UZ.out ⟨fun h => (by cases h), fun h => absurd h HE.out⟩).mono ?_
    rintro e w1 ⟨rfl, hb1⟩
    replace F_g := Lib.hid (F_g.out.keep hb1)
    replace F_p := Lib.hid (F_p.out.keep hb1)
    replace HBW := Lib.hid (HBW.out.trans (hb1.mono HBW.out.size))
    clear hb1
    obtain ⟨q1_0, q1_1, q1_2, q1_3, q1_4, q1_5⟩ := Arr.k3 F_p.out
    obtain ⟨x0a, x0b, x0c, -⟩ := id F_g.out
    go_wp2_with fail
    go_ret
    exact ⟨ret_bool HZ.out, HBW.out⟩
  case pos =>
    have HE := Lib.hid hE
    have HZ := Lib.hid (show v = true ↔ powm a Z P = S * powm d c P % P from HV.out.trans ⟨fun h => h.2, fun h => ⟨HE.out, h⟩⟩)
    clear hE
    have F_g := Lib.hid (show Boxed ((w.alloc (.cells #[.int .u64 P, .int .u64 Q, .int .u64 G] 24)).alloc (.cells #[.int .u64 R, .int .u64 S, .int .u64 Z] 26)) (w.heap.size) P Q G from (Boxed.at _ P Q G _ (w.heap.size) (by simp)).alloc _)
    have F_p := Lib.hid (show Arr .u64 ((w.alloc (.cells #[.int .u64 P, .int .u64 Q, .int .u64 G] 24)).alloc (.cells #[.int .u64 R, .int .u64 S, .int .u64 Z] 26)) (w.heap.size + 1) [R, S, Z] from Arr.new .u64 _ [R, S, Z] _ (w.heap.size + 1) (by simp))
    have HBW := Lib.hid (show Below w.heap.size w ((w.alloc (.cells #[.int .u64 P, .int .u64 Q, .int .u64 G] 24)).alloc (.cells #[.int .u64 R, .int .u64 S, .int .u64 Z] 26)) from ((Below.refl _ _).alloc (by simp <;> omega) _).alloc (by simp <;> omega) _)
    go_enter Tryd.func38, Tryd.ntmps38
    obtain ⟨q1_0, q1_1, q1_2, q1_3, q1_4, q1_5⟩ := Arr.k3 F_p.out
    obtain ⟨x0a, x0b, x0c, -⟩ := id F_g.out
    go_wp2_with fail
    clear x0a x0b x0c q1_0 q1_1 q1_2 q1_3 q1_4 q1_5
    refine (reven_any (v := true) _ hP1 PM hG gP y0 yP R0 RP UC.out UZ.out ⟨fun _ => HE.out, fun _ => rfl⟩).mono ?_
    rintro e w1 ⟨rfl, hb1⟩
    replace F_g := Lib.hid (F_g.out.keep hb1)
    replace F_p := Lib.hid (F_p.out.keep hb1)
    replace HBW := Lib.hid (HBW.out.trans (hb1.mono HBW.out.size))
    clear hb1
    obtain ⟨q1_0, q1_1, q1_2, q1_3, q1_4, q1_5⟩ := Arr.k3 F_p.out
    obtain ⟨x0a, x0b, x0c, -⟩ := id F_g.out
    go_wp2_with fail
    clear x0a x0b x0c q1_0 q1_1 q1_2 q1_3 q1_4 q1_5
    refine (reven_any (v := v) _ hP1 PM a0 aP d0 dP S0 SP UC.out UZ.out HZ.out).mono ?_
    rintro e w2 ⟨rfl, hb2⟩
    replace F_g := Lib.hid (F_g.out.keep hb2)
    replace F_p := Lib.hid (F_p.out.keep hb2)
    replace HBW := Lib.hid (HBW.out.trans (hb2.mono HBW.out.size))
    clear hb2
    obtain ⟨q1_0, q1_1, q1_2, q1_3, q1_4, q1_5⟩ := Arr.k3 F_p.out
    obtain ⟨x0a, x0b, x0c, -⟩ := id F_g.out
    go_wp2_with fail
    go_ret
    exact ⟨rfl, HBW.out⟩

set_option maxRecDepth 100000 in
set_option maxHeartbeats 4000000 in
theorem reqHolds_any {P Q G y a d R S Z c e' : Int} {v : Bool} (w : World) (hP : 0 ≤ P) (hQ : 0 ≤ Q) (hG : 0 ≤ G) (y0 : 0 ≤ y) (a0 : 0 ≤ a) (d0 : 0 ≤ d) (R0 : 0 ≤ R) (S0 : 0 ≤ S) (Z0 : 0 ≤ Z) (c0 : 0 ≤ c) (h : RetB (askS P Q G [Z, c] [y, a, d, R, S]) (powm G Z P = R * powm y c P % P ∧ powm a Z P = S * powm d c P % P) v e') :
    Calls Tryd.prog 13 #[.agg #[.int .u64 P, .int .u64 Q, .int .u64 G], .int .u64 y, .int .u64 a, .int .u64 d, .agg #[.int .u64 R, .int .u64 S, .int .u64 Z], .int .u64 c] w fun e w' => e = .returned (.tuple #[.bool v, .int .i64 e']) ∧ Below w.heap.size w w' := by
  rcases h with ⟨h, hv, rfl⟩ | ⟨h, rfl, hc⟩
  · obtain ⟨hH, he, hnn⟩ := askS_zero h
    have HR := Lib.hid h
    have HV := Lib.hid hv
    have HH := Lib.hid hH
    have q3 : Q < 1073741824 := by have := hH; unfold Has at this; omega
    have cQ := he c (by simp)
    have ZQ := he Z (by simp)
    have yP := hnn y (by simp)
    have aP := hnn a (by simp)
    have dP := hnn d (by simp)
    have RP := hnn R (by simp)
    have SP := hnn S (by simp)
    have UZ := Lib.hid (U64.of_lt Z0 (by omega))
    have UC := Lib.hid (U64.of_lt c0 (by omega))
    clear h hv he hnn hH
    have F_g := Lib.hid (show Boxed ((((w.alloc (.cells #[.int .u64 P, .int .u64 Q, .int .u64 G] 24)).alloc (.cells #[.int .u64 R, .int .u64 S, .int .u64 Z] 26)).alloc (.cells #[.int .u64 Z, .int .u64 c] 22)).alloc (.cells #[.int .u64 y, .int .u64 a, .int .u64 d, .int .u64 R, .int .u64 S] 22)) (w.heap.size) P Q G from (((Boxed.at _ P Q G _ (w.heap.size) (by simp)).alloc _).alloc _).alloc _)
    have F_es := Lib.hid (show ShL ((((w.alloc (.cells #[.int .u64 P, .int .u64 Q, .int .u64 G] 24)).alloc (.cells #[.int .u64 R, .int .u64 S, .int .u64 Z] 26)).alloc (.cells #[.int .u64 Z, .int .u64 c] 22)).alloc (.cells #[.int .u64 y, .int .u64 a, .int .u64 d, .int .u64 R, .int .u64 S] 22)) (some ⟨w.heap.size + 1 + 1, 0, none⟩) 2 2 [Z, c] from (ShL.laid _ [Z, c] _ _ (w.heap.size + 1 + 1) _ _ (by simp) rfl rfl).alloc _)
    have F_ns := Lib.hid (show ShL ((((w.alloc (.cells #[.int .u64 P, .int .u64 Q, .int .u64 G] 24)).alloc (.cells #[.int .u64 R, .int .u64 S, .int .u64 Z] 26)).alloc (.cells #[.int .u64 Z, .int .u64 c] 22)).alloc (.cells #[.int .u64 y, .int .u64 a, .int .u64 d, .int .u64 R, .int .u64 S] 22)) (some ⟨w.heap.size + 1 + 1 + 1, 0, none⟩) 5 5 [y, a, d, R, S] from ShL.laid _ [y, a, d, R, S] _ _ (w.heap.size + 1 + 1 + 1) _ _ (by simp) rfl rfl)
    have F_p := Lib.hid (show Arr .u64 ((((w.alloc (.cells #[.int .u64 P, .int .u64 Q, .int .u64 G] 24)).alloc (.cells #[.int .u64 R, .int .u64 S, .int .u64 Z] 26)).alloc (.cells #[.int .u64 Z, .int .u64 c] 22)).alloc (.cells #[.int .u64 y, .int .u64 a, .int .u64 d, .int .u64 R, .int .u64 S] 22)) (w.heap.size + 1) [R, S, Z] from ((Arr.new .u64 _ [R, S, Z] _ (w.heap.size + 1) (by simp)).alloc _).alloc _)
    have HBW := Lib.hid (show Below w.heap.size w ((((w.alloc (.cells #[.int .u64 P, .int .u64 Q, .int .u64 G] 24)).alloc (.cells #[.int .u64 R, .int .u64 S, .int .u64 Z] 26)).alloc (.cells #[.int .u64 Z, .int .u64 c] 22)).alloc (.cells #[.int .u64 y, .int .u64 a, .int .u64 d, .int .u64 R, .int .u64 S] 22)) from ((((Below.refl _ _).alloc (by simp <;> omega) _).alloc (by simp <;> omega) _).alloc (by simp <;> omega) _).alloc (by simp <;> omega) _)
    go_enter Tryd.func13, Tryd.ntmps13
    obtain ⟨q1_0, q1_1, q1_2, q1_3, q1_4, q1_5⟩ := Arr.k3 F_p.out
    obtain ⟨x0a, x0b, x0c, -⟩ := id F_g.out
    go_wp2_with fail
    clear x0a x0b x0c q1_0 q1_1 q1_2 q1_3 q1_4 q1_5
    refine (rAsked_any _ hP hQ hG F_es.out F_ns.out (by simp) (by simp) HR.out).mono ?_
    rintro e w1 ⟨rfl, hb1⟩
    replace F_g := Lib.hid (F_g.out.keep hb1)
    replace F_p := Lib.hid (F_p.out.keep hb1)
    replace F_es := Lib.hid (F_es.out.keep hb1)
    replace F_ns := Lib.hid (F_ns.out.keep hb1)
    replace HBW := Lib.hid (HBW.out.trans (hb1.mono HBW.out.size))
    clear hb1
    clear F_es
    clear F_ns
    obtain ⟨q1_0, q1_1, q1_2, q1_3, q1_4, q1_5⟩ := Arr.k3 F_p.out
    obtain ⟨x0a, x0b, x0c, -⟩ := id F_g.out
    go_wp2_with fail
    clear x0a x0b x0c q1_0 q1_1 q1_2 q1_3 q1_4 q1_5
    refine (rEqualIs_any (v := v) _ HH.out y0 yP a0 aP d0 dP R0 RP S0 SP UZ.out UC.out HV.out).mono ?_
    rintro e w2 ⟨rfl, hb2⟩
    replace F_g := Lib.hid (F_g.out.keep hb2)
    replace F_p := Lib.hid (F_p.out.keep hb2)
    replace HBW := Lib.hid (HBW.out.trans (hb2.mono HBW.out.size))
    clear hb2
    obtain ⟨q1_0, q1_1, q1_2, q1_3, q1_4, q1_5⟩ := Arr.k3 F_p.out
    obtain ⟨x0a, x0b, x0c, -⟩ := id F_g.out
    go_wp2_with fail
    go_ret2
    exact ⟨rfl, HBW.out⟩
  · have hnc : e' ≠ 0 := by rw [hc]; exact h
    have hn1 : (e' != 0) = true := by simpa using hnc
    have HR := Lib.hid hc.symm
    clear h hc hnc
    have F_g := Lib.hid (show Boxed ((((w.alloc (.cells #[.int .u64 P, .int .u64 Q, .int .u64 G] 24)).alloc (.cells #[.int .u64 R, .int .u64 S, .int .u64 Z] 26)).alloc (.cells #[.int .u64 Z, .int .u64 c] 22)).alloc (.cells #[.int .u64 y, .int .u64 a, .int .u64 d, .int .u64 R, .int .u64 S] 22)) (w.heap.size) P Q G from (((Boxed.at _ P Q G _ (w.heap.size) (by simp)).alloc _).alloc _).alloc _)
    have F_es := Lib.hid (show ShL ((((w.alloc (.cells #[.int .u64 P, .int .u64 Q, .int .u64 G] 24)).alloc (.cells #[.int .u64 R, .int .u64 S, .int .u64 Z] 26)).alloc (.cells #[.int .u64 Z, .int .u64 c] 22)).alloc (.cells #[.int .u64 y, .int .u64 a, .int .u64 d, .int .u64 R, .int .u64 S] 22)) (some ⟨w.heap.size + 1 + 1, 0, none⟩) 2 2 [Z, c] from (ShL.laid _ [Z, c] _ _ (w.heap.size + 1 + 1) _ _ (by simp) rfl rfl).alloc _)
    have F_ns := Lib.hid (show ShL ((((w.alloc (.cells #[.int .u64 P, .int .u64 Q, .int .u64 G] 24)).alloc (.cells #[.int .u64 R, .int .u64 S, .int .u64 Z] 26)).alloc (.cells #[.int .u64 Z, .int .u64 c] 22)).alloc (.cells #[.int .u64 y, .int .u64 a, .int .u64 d, .int .u64 R, .int .u64 S] 22)) (some ⟨w.heap.size + 1 + 1 + 1, 0, none⟩) 5 5 [y, a, d, R, S] from ShL.laid _ [y, a, d, R, S] _ _ (w.heap.size + 1 + 1 + 1) _ _ (by simp) rfl rfl)
    have F_p := Lib.hid (show Arr .u64 ((((w.alloc (.cells #[.int .u64 P, .int .u64 Q, .int .u64 G] 24)).alloc (.cells #[.int .u64 R, .int .u64 S, .int .u64 Z] 26)).alloc (.cells #[.int .u64 Z, .int .u64 c] 22)).alloc (.cells #[.int .u64 y, .int .u64 a, .int .u64 d, .int .u64 R, .int .u64 S] 22)) (w.heap.size + 1) [R, S, Z] from ((Arr.new .u64 _ [R, S, Z] _ (w.heap.size + 1) (by simp)).alloc _).alloc _)
    have HBW := Lib.hid (show Below w.heap.size w ((((w.alloc (.cells #[.int .u64 P, .int .u64 Q, .int .u64 G] 24)).alloc (.cells #[.int .u64 R, .int .u64 S, .int .u64 Z] 26)).alloc (.cells #[.int .u64 Z, .int .u64 c] 22)).alloc (.cells #[.int .u64 y, .int .u64 a, .int .u64 d, .int .u64 R, .int .u64 S] 22)) from ((((Below.refl _ _).alloc (by simp <;> omega) _).alloc (by simp <;> omega) _).alloc (by simp <;> omega) _).alloc (by simp <;> omega) _)
    go_enter Tryd.func13, Tryd.ntmps13
    obtain ⟨q1_0, q1_1, q1_2, q1_3, q1_4, q1_5⟩ := Arr.k3 F_p.out
    obtain ⟨x0a, x0b, x0c, -⟩ := id F_g.out
    go_wp2_with fail
    clear x0a x0b x0c q1_0 q1_1 q1_2 q1_3 q1_4 q1_5
    refine (rAsked_any _ hP hQ hG F_es.out F_ns.out (by simp) (by simp) HR.out).mono ?_
    rintro e w1 ⟨rfl, hb1⟩
    replace F_g := Lib.hid (F_g.out.keep hb1)
    replace F_p := Lib.hid (F_p.out.keep hb1)
    replace F_es := Lib.hid (F_es.out.keep hb1)
    replace F_ns := Lib.hid (F_ns.out.keep hb1)
    replace HBW := Lib.hid (HBW.out.trans (hb1.mono HBW.out.size))
    clear hb1
    clear F_es
    clear F_ns
    obtain ⟨q1_0, q1_1, q1_2, q1_3, q1_4, q1_5⟩ := Arr.k3 F_p.out
    obtain ⟨x0a, x0b, x0c, -⟩ := id F_g.out
    go_wp2_with fail
    go_ret2
    exact ⟨rfl, HBW.out⟩

set_option maxRecDepth 100000 in
set_option maxHeartbeats 4000000 in
theorem rEqualGood_any {P Q G y a d R S Z : Int} {v : Bool} {tx : Option Addr} {n cp : Nat} {T : List Int} (w : World) (hT : Txt w tx n T) (hH : Has P Q G) (y0 : 0 ≤ y) (yP : y < P) (a0 : 0 ≤ a) (aP : a < P) (d0 : 0 ≤ d) (dP : d < P) (R0 : 0 ≤ R) (RP : R < P) (S0 : 0 ≤ S) (SP : S < P) (Z0 : 0 ≤ Z) (ZQ : Z < Q) (hn8 : n ≤ 8000) (hv : v = true ↔ evP P Q G y a d R S Z T) :
    Calls Tryd.prog 40 #[.agg #[.int .u64 P, .int .u64 Q, .int .u64 G], .int .u64 y, .int .u64 a, .int .u64 d, .agg #[.int .u64 R, .int .u64 S, .int .u64 Z], .slice tx n cp] w fun e w' => e = .returned (.bool v) ∧ Below w.heap.size w w' := by
  have HT := Lib.hid hT
  have HV := Lib.hid hv
  clear hT hv
  obtain ⟨p5, p3, hQ', pq, g2, gP⟩ := id hH
  have hP1 : 1 ≤ P := by omega
  have hGM : G < 2147483648 := by omega
  have q3 : Q < 1073741824 := by omega
  have q2 : 2 ≤ Q := by omega
  have HH := Lib.hid hH
  clear hH pq
  have HRG := Lib.hid (show ∀ z, z ∈ [y, a, d, R, S] → 0 ≤ z ∧ z < P from fun z hz => by
    simp at hz
    rcases hz with rfl | rfl | rfl | rfl | rfl <;> exact ⟨by assumption, by assumption⟩)
  have HUS := Lib.hid (show ∀ z, z ∈ [y, a, d, R, S] → U64 z from fun z hz => U64.of_lt (HRG.out z hz).1 (by have := (HRG.out z hz).2; omega))
  obtain ⟨h_, hh⟩ : ∃ h_, chV Q [y, a, d, R, S] T = h_ := ⟨_, rfl⟩
  obtain ⟨h0, hQQ⟩ : 0 ≤ h_ ∧ h_ < Q := by rw [← hh]; exact chV_range (by omega) _ _
  have HCC := Lib.hid hh
  have UH := Lib.hid (U64.of_lt h0 (by omega))
  have UZ := Lib.hid (U64.of_lt Z0 (by omega))
  clear hh
  by_cases hM : memsP P Q [y, a, d, R, S]
  case neg =>
    have HM := Lib.hid hM
    have HZ := Lib.hid (show false = v by rw [Bool.eq_iff_iff, HV.out]; exact ⟨fun h => (by cases h), fun h => absurd h.1 HM.out⟩)
    clear hM
    have F_g := Lib.hid (show Boxed (((w.alloc (.cells #[.int .u64 P, .int .u64 Q, .int .u64 G] 24)).alloc (.cells #[.int .u64 R, .int .u64 S, .int .u64 Z] 26)).alloc (.cells #[.int .u64 y, .int .u64 a, .int .u64 d, .int .u64 R, .int .u64 S] 22)) (w.heap.size) P Q G from ((Boxed.at _ P Q G _ (w.heap.size) (by simp)).alloc _).alloc _)
    have F_ls := Lib.hid (show ShL (((w.alloc (.cells #[.int .u64 P, .int .u64 Q, .int .u64 G] 24)).alloc (.cells #[.int .u64 R, .int .u64 S, .int .u64 Z] 26)).alloc (.cells #[.int .u64 y, .int .u64 a, .int .u64 d, .int .u64 R, .int .u64 S] 22)) (some ⟨w.heap.size + 1 + 1, 0, none⟩) 5 5 [y, a, d, R, S] from ShL.laid _ [y, a, d, R, S] _ _ (w.heap.size + 1 + 1) _ _ (by simp) rfl rfl)
    have F_p := Lib.hid (show Arr .u64 (((w.alloc (.cells #[.int .u64 P, .int .u64 Q, .int .u64 G] 24)).alloc (.cells #[.int .u64 R, .int .u64 S, .int .u64 Z] 26)).alloc (.cells #[.int .u64 y, .int .u64 a, .int .u64 d, .int .u64 R, .int .u64 S] 22)) (w.heap.size + 1) [R, S, Z] from (Arr.new .u64 _ [R, S, Z] _ (w.heap.size + 1) (by simp)).alloc _)
    have HBW := Lib.hid (show Below w.heap.size w (((w.alloc (.cells #[.int .u64 P, .int .u64 Q, .int .u64 G] 24)).alloc (.cells #[.int .u64 R, .int .u64 S, .int .u64 Z] 26)).alloc (.cells #[.int .u64 y, .int .u64 a, .int .u64 d, .int .u64 R, .int .u64 S] 22)) from (((Below.refl _ _).alloc (by simp <;> omega) _).alloc (by simp <;> omega) _).alloc (by simp <;> omega) _)
    go_enter Tryd.func40, Tryd.ntmps40
    obtain ⟨q1_0, q1_1, q1_2, q1_3, q1_4, q1_5⟩ := Arr.k3 F_p.out
    obtain ⟨x0a, x0b, x0c, -⟩ := id F_g.out
    go_wp2_with fail
    clear x0a x0b x0c q1_0 q1_1 q1_2 q1_3 q1_4 q1_5
    replace F_g := Lib.hid F_g.out.drew
    replace F_p := Lib.hid F_p.out.drew
    replace F_ls := Lib.hid F_ls.out.drew
    replace HBW := Lib.hid HBW.out.drew
    have hS := And.intro F_g.out.s F_p.out.s3
    refine wp_region_stage 2 (fun w' => SBox w' w.heap.size P Q G ∧ S3 w' (w.heap.size + 1) R S Z) (by kernel_rfl) ?_
    refine wpAnyB_take (i := 0) (some 22) (Op.load 24 (Operand.tmp 6)) 24 (v := ?_) ⟨_, rfl, rfl, rfl, rfl, rfl⟩ (by kernel_rfl) (by kernel_rfl) (by kernel_rfl) [2] (by kernel_rfl) (fun _ _ _ h => h) hS (fun w' hSw => ?_) ?_
    rotate_left
    · obtain ⟨⟨s0, s1, s2⟩, ⟨s3, s4, s5⟩⟩ := hSw
      unfold bareOp
      go_simp
      try with_reducible rfl
    simp only [Act.put, List.setIfInBounds_toArray, List.set_cons_zero, List.set_cons_succ]
    refine wpAnyB_takeP (i := 1) (some 23) (Op.move (Operand.tmp 13)) 42 (v := ?_) ⟨_, rfl, rfl, rfl, rfl, rfl⟩ (by kernel_rfl) (by kernel_rfl) (by kernel_rfl) (by kernel_rfl) (fun _ _ _ h => h) (fun _ => hS) (fun w' => ?_) ?_
    rotate_left
    · unfold bareOp
      go_simp
      try with_reducible rfl
    simp only [Act.put, List.setIfInBounds_toArray, List.set_cons_zero, List.set_cons_succ]
    refine wpAnyB_only (i := 2) (some 24) (Op.call { callee := Callee.value (Operand.func 70), args := #[Operand.tmp 22, Operand.tmp 23], argTypes := #[24, 42] }) 4 ⟨_, rfl, rfl, rfl, rfl, rfl⟩ (by kernel_rfl) (fun K hK => ?_)
    unfold bareOp
    go_wp2_with (go_at_call 70; refine (rmembers_any (v := false) _ HH.out F_ls.out HRG.out (by simp) ⟨fun h => (by cases h), fun h => absurd h HM.out⟩).mono ?_; rintro e w1 ⟨rfl, hb1⟩)
    replace F_g := Lib.hid (F_g.out.keep hb1)
    replace F_p := Lib.hid (F_p.out.keep hb1)
    replace F_ls := Lib.hid (F_ls.out.keep hb1)
    replace HBW := Lib.hid (HBW.out.trans (hb1.mono HBW.out.size))
    replace hS := And.intro F_g.out.s F_p.out.s3
    clear hb1
    refine hK.out _ _ (fun h => absurd (h.symm.trans (by kernel_rfl : _ = true)) (by decide)) ?_
    clear hK K
    try simp only [Act.put, List.setIfInBounds_toArray, List.set_cons_zero, List.set_cons_succ]
    refine wpAnyB_takeP (i := 3) (some 25) (Op.move (Operand.tmp 24)) 4 (v := ?_) ⟨_, rfl, rfl, rfl, rfl, rfl⟩ (by kernel_rfl) (by kernel_rfl) (by kernel_rfl) (by kernel_rfl) (fun _ _ _ h => h) (fun h => absurd (h.symm.trans (by kernel_rfl : _ = true)) (by decide)) (fun w' => ?_) ?_
    rotate_left
    · unfold bareOp
      go_simp
      try with_reducible rfl
    simp only [Act.put, List.setIfInBounds_toArray, List.set_cons_zero, List.set_cons_succ]
    refine wpAnyB_skip (i := 4) (some 26) (Op.load 24 (Operand.tmp 6)) 24 (some (3, true)) ⟨_, rfl, rfl, rfl, rfl, rfl⟩ rfl (by kernel_rfl) (by kernel_rfl) (by kernel_rfl) (by kernel_rfl) (fun _ _ _ h => h) (fun h => absurd (h.symm.trans (by kernel_rfl : _ = true)) (by decide)) ?_
    simp only [Act.put, List.setIfInBounds_toArray, List.set_cons_zero, List.set_cons_succ]
    refine wpAnyB_skip (i := 5) (some 27) (Op.move (Operand.tmp 1)) 22 (some (3, true)) ⟨_, rfl, rfl, rfl, rfl, rfl⟩ rfl (by kernel_rfl) (by kernel_rfl) (by kernel_rfl) (by kernel_rfl) (fun _ _ _ h => h) (fun h => absurd (h.symm.trans (by kernel_rfl : _ = true)) (by decide)) ?_
    simp only [Act.put, List.setIfInBounds_toArray, List.set_cons_zero, List.set_cons_succ]
    refine wpAnyB_skip (i := 6) (some 28) (Op.move (Operand.tmp 2)) 22 (some (3, true)) ⟨_, rfl, rfl, rfl, rfl, rfl⟩ rfl (by kernel_rfl) (by kernel_rfl) (by kernel_rfl) (by kernel_rfl) (fun _ _ _ h => h) (fun h => absurd (h.symm.trans (by kernel_rfl : _ = true)) (by decide)) ?_
    simp only [Act.put, List.setIfInBounds_toArray, List.set_cons_zero, List.set_cons_succ]
    refine wpAnyB_skip (i := 7) (some 29) (Op.move (Operand.tmp 3)) 22 (some (3, true)) ⟨_, rfl, rfl, rfl, rfl, rfl⟩ rfl (by kernel_rfl) (by kernel_rfl) (by kernel_rfl) (by kernel_rfl) (fun _ _ _ h => h) (fun h => absurd (h.symm.trans (by kernel_rfl : _ = true)) (by decide)) ?_
    simp only [Act.put, List.setIfInBounds_toArray, List.set_cons_zero, List.set_cons_succ]
    refine wpAnyB_skip (i := 8) (some 30) (Op.load 26 (Operand.tmp 10)) 26 (some (3, true)) ⟨_, rfl, rfl, rfl, rfl, rfl⟩ rfl (by kernel_rfl) (by kernel_rfl) (by kernel_rfl) (by kernel_rfl) (fun _ _ _ h => h) (fun h => absurd (h.symm.trans (by kernel_rfl : _ = true)) (by decide)) ?_
    simp only [Act.put, List.setIfInBounds_toArray, List.set_cons_zero, List.set_cons_succ]
    refine wpAnyB_skip (i := 9) (some 31) (Op.load 24 (Operand.tmp 6)) 24 (some (3, true)) ⟨_, rfl, rfl, rfl, rfl, rfl⟩ rfl (by kernel_rfl) (by kernel_rfl) (by kernel_rfl) (by kernel_rfl) (fun _ _ _ h => h) (fun h => absurd (h.symm.trans (by kernel_rfl : _ = true)) (by decide)) ?_
    simp only [Act.put, List.setIfInBounds_toArray, List.set_cons_zero, List.set_cons_succ]
    refine wpAnyB_skip (i := 10) (some 32) (Op.move (Operand.tmp 13)) 42 (some (3, true)) ⟨_, rfl, rfl, rfl, rfl, rfl⟩ rfl (by kernel_rfl) (by kernel_rfl) (by kernel_rfl) (by kernel_rfl) (fun _ _ _ h => h) (fun h => absurd (h.symm.trans (by kernel_rfl : _ = true)) (by decide)) ?_
    simp only [Act.put, List.setIfInBounds_toArray, List.set_cons_zero, List.set_cons_succ]
    refine wpAnyB_skip (i := 11) (some 33) (Op.move (Operand.tmp 5)) 27 (some (3, true)) ⟨_, rfl, rfl, rfl, rfl, rfl⟩ rfl (by kernel_rfl) (by kernel_rfl) (by kernel_rfl) (by kernel_rfl) (fun _ _ _ h => h) (fun h => absurd (h.symm.trans (by kernel_rfl : _ = true)) (by decide)) ?_
    simp only [Act.put, List.setIfInBounds_toArray, List.set_cons_zero, List.set_cons_succ]
    refine wpAnyB_skip (i := 12) (some 34) (Op.call { callee := Callee.value (Operand.func 67), args := #[Operand.tmp 31, Operand.tmp 32, Operand.tmp 33], argTypes := #[24, 42, 27] }) 22 (some (3, true)) ⟨_, rfl, rfl, rfl, rfl, rfl⟩ rfl (by kernel_rfl) (by kernel_rfl) (by kernel_rfl) (by kernel_rfl) (fun _ _ _ h => h) (fun h => absurd (h.symm.trans (by kernel_rfl : _ = true)) (by decide)) ?_
    simp only [Act.put, List.setIfInBounds_toArray, List.set_cons_zero, List.set_cons_succ]
    refine wpAnyB_skip (i := 13) (some 35) (Op.call { callee := Callee.value (Operand.func 38), args := #[Operand.tmp 26, Operand.tmp 27, Operand.tmp 28, Operand.tmp 29, Operand.tmp 30, Operand.tmp 34], argTypes := #[24, 22, 22, 22, 26, 22] }) 4 (some (3, true)) ⟨_, rfl, rfl, rfl, rfl, rfl⟩ rfl (by kernel_rfl) (by kernel_rfl) (by kernel_rfl) (by kernel_rfl) (fun _ _ _ h => h) (fun h => absurd (h.symm.trans (by kernel_rfl : _ = true)) (by decide)) ?_
    simp only [Act.put, List.setIfInBounds_toArray, List.set_cons_zero, List.set_cons_succ]
    refine wpAnyB_takeP (i := 14) (some 36) (Op.pick (Operand.tmp 25) (Operand.tmp 35) (Operand.const (Value.bool false))) 4 (v := ?_) ⟨_, rfl, rfl, rfl, rfl, rfl⟩ (by kernel_rfl) (by kernel_rfl) (by kernel_rfl) (by kernel_rfl) (fun _ _ _ h => h) (fun h => absurd (h.symm.trans (by kernel_rfl : _ = true)) (by decide)) (fun w' => ?_) ?_
    rotate_left
    · unfold bareOp
      go_simp
      try with_reducible rfl
    simp only [Act.put, List.setIfInBounds_toArray, List.set_cons_zero, List.set_cons_succ]
    refine wpAnyB_takeP (i := 15) (some 12) (Op.assign (Operand.tmp 36)) 4 (v := ?_) ⟨_, rfl, rfl, rfl, rfl, rfl⟩ (by kernel_rfl) (by kernel_rfl) (by kernel_rfl) (by kernel_rfl) (fun _ _ _ h => h) (fun h => absurd (h.symm.trans (by kernel_rfl : _ = true)) (by decide)) (fun w' => ?_) ?_
    rotate_left
    · unfold bareOp
      go_simp
      try with_reducible rfl
    simp only [Act.put, List.setIfInBounds_toArray, List.set_cons_zero, List.set_cons_succ]
    refine wpAnyB_done (by kernel_rfl) ?_ _
    go_wp2_with fail
    go_ret
    exact ⟨ret_bool HZ.out, HBW.out⟩
  case pos =>
    have HM := Lib.hid hM
    have HZ := Lib.hid (show v = true ↔ powm G Z P = R * powm y h_ P % P ∧ powm a Z P = S * powm d h_ P % P from HV.out.trans ⟨fun h => by rw [← HCC.out]; exact h.2, fun h => ⟨HM.out, by rw [HCC.out]; exact h⟩⟩)
    clear hM
    have F_g := Lib.hid (show Boxed (((w.alloc (.cells #[.int .u64 P, .int .u64 Q, .int .u64 G] 24)).alloc (.cells #[.int .u64 R, .int .u64 S, .int .u64 Z] 26)).alloc (.cells #[.int .u64 y, .int .u64 a, .int .u64 d, .int .u64 R, .int .u64 S] 22)) (w.heap.size) P Q G from ((Boxed.at _ P Q G _ (w.heap.size) (by simp)).alloc _).alloc _)
    have F_ls := Lib.hid (show ShL (((w.alloc (.cells #[.int .u64 P, .int .u64 Q, .int .u64 G] 24)).alloc (.cells #[.int .u64 R, .int .u64 S, .int .u64 Z] 26)).alloc (.cells #[.int .u64 y, .int .u64 a, .int .u64 d, .int .u64 R, .int .u64 S] 22)) (some ⟨w.heap.size + 1 + 1, 0, none⟩) 5 5 [y, a, d, R, S] from ShL.laid _ [y, a, d, R, S] _ _ (w.heap.size + 1 + 1) _ _ (by simp) rfl rfl)
    have F_p := Lib.hid (show Arr .u64 (((w.alloc (.cells #[.int .u64 P, .int .u64 Q, .int .u64 G] 24)).alloc (.cells #[.int .u64 R, .int .u64 S, .int .u64 Z] 26)).alloc (.cells #[.int .u64 y, .int .u64 a, .int .u64 d, .int .u64 R, .int .u64 S] 22)) (w.heap.size + 1) [R, S, Z] from (Arr.new .u64 _ [R, S, Z] _ (w.heap.size + 1) (by simp)).alloc _)
    have HBW := Lib.hid (show Below w.heap.size w (((w.alloc (.cells #[.int .u64 P, .int .u64 Q, .int .u64 G] 24)).alloc (.cells #[.int .u64 R, .int .u64 S, .int .u64 Z] 26)).alloc (.cells #[.int .u64 y, .int .u64 a, .int .u64 d, .int .u64 R, .int .u64 S] 22)) from (((Below.refl _ _).alloc (by simp <;> omega) _).alloc (by simp <;> omega) _).alloc (by simp <;> omega) _)
    go_enter Tryd.func40, Tryd.ntmps40
    obtain ⟨q1_0, q1_1, q1_2, q1_3, q1_4, q1_5⟩ := Arr.k3 F_p.out
    obtain ⟨x0a, x0b, x0c, -⟩ := id F_g.out
    go_wp2_with fail
    clear x0a x0b x0c q1_0 q1_1 q1_2 q1_3 q1_4 q1_5
    replace F_g := Lib.hid F_g.out.drew
    replace F_p := Lib.hid F_p.out.drew
    replace F_ls := Lib.hid F_ls.out.drew
    replace HBW := Lib.hid HBW.out.drew
    have hS := And.intro F_g.out.s F_p.out.s3
    refine wp_region_stage 13 (fun w' => SBox w' w.heap.size P Q G ∧ S3 w' (w.heap.size + 1) R S Z) (by kernel_rfl) ?_
    refine wpAnyB_take (i := 0) (some 22) (Op.load 24 (Operand.tmp 6)) 24 (v := ?_) ⟨_, rfl, rfl, rfl, rfl, rfl⟩ (by kernel_rfl) (by kernel_rfl) (by kernel_rfl) [2, 3, 4, 5, 6, 7, 8, 9, 10, 11, 12, 13] (by kernel_rfl) (fun _ _ _ h => h) hS (fun w' hSw => ?_) ?_
    rotate_left
    · obtain ⟨⟨s0, s1, s2⟩, ⟨s3, s4, s5⟩⟩ := hSw
      unfold bareOp
      go_simp
      try with_reducible rfl
    simp only [Act.put, List.setIfInBounds_toArray, List.set_cons_zero, List.set_cons_succ]
    refine wpAnyB_takeP (i := 1) (some 23) (Op.move (Operand.tmp 13)) 42 (v := ?_) ⟨_, rfl, rfl, rfl, rfl, rfl⟩ (by kernel_rfl) (by kernel_rfl) (by kernel_rfl) (by kernel_rfl) (fun _ _ _ h => h) (fun _ => hS) (fun w' => ?_) ?_
    rotate_left
    · unfold bareOp
      go_simp
      try with_reducible rfl
    simp only [Act.put, List.setIfInBounds_toArray, List.set_cons_zero, List.set_cons_succ]
    refine wpAnyB_only (i := 2) (some 24) (Op.call { callee := Callee.value (Operand.func 70), args := #[Operand.tmp 22, Operand.tmp 23], argTypes := #[24, 42] }) 4 ⟨_, rfl, rfl, rfl, rfl, rfl⟩ (by kernel_rfl) (fun K hK => ?_)
    unfold bareOp
    go_wp2_with (go_at_call 70; refine (rmembers_any (v := true) _ HH.out F_ls.out HRG.out (by simp) ⟨fun _ => HM.out, fun _ => rfl⟩).mono ?_; rintro e w1 ⟨rfl, hb1⟩)
    replace F_g := Lib.hid (F_g.out.keep hb1)
    replace F_p := Lib.hid (F_p.out.keep hb1)
    replace F_ls := Lib.hid (F_ls.out.keep hb1)
    replace HBW := Lib.hid (HBW.out.trans (hb1.mono HBW.out.size))
    replace hS := And.intro F_g.out.s F_p.out.s3
    clear hb1
    refine hK.out _ _ (fun _ => hS) ?_
    clear hK K
    try simp only [Act.put, List.setIfInBounds_toArray, List.set_cons_zero, List.set_cons_succ]
    refine wpAnyB_takeP (i := 3) (some 25) (Op.move (Operand.tmp 24)) 4 (v := ?_) ⟨_, rfl, rfl, rfl, rfl, rfl⟩ (by kernel_rfl) (by kernel_rfl) (by kernel_rfl) (by kernel_rfl) (fun _ _ _ h => h) (fun _ => hS) (fun w' => ?_) ?_
    rotate_left
    · unfold bareOp
      go_simp
      try with_reducible rfl
    simp only [Act.put, List.setIfInBounds_toArray, List.set_cons_zero, List.set_cons_succ]
    refine wpAnyB_takeG (i := 4) (some 26) (Op.load 24 (Operand.tmp 6)) 24 (some (3, true)) (v := ?_) ⟨_, rfl, rfl, rfl, rfl, rfl⟩ rfl (by kernel_rfl) (by kernel_rfl) (by kernel_rfl) [13] (by kernel_rfl) (fun _ _ _ h => h) hS (fun w' hSw => ?_) ?_
    rotate_left
    · obtain ⟨⟨s0, s1, s2⟩, ⟨s3, s4, s5⟩⟩ := hSw
      unfold bareOp
      go_simp
      try with_reducible rfl
    simp only [Act.put, List.setIfInBounds_toArray, List.set_cons_zero, List.set_cons_succ]
    refine wpAnyB_takePG (i := 5) (some 27) (Op.move (Operand.tmp 1)) 22 (some (3, true)) (v := ?_) ⟨_, rfl, rfl, rfl, rfl, rfl⟩ rfl (by kernel_rfl) (by kernel_rfl) (by kernel_rfl) (by kernel_rfl) (fun _ _ _ h => h) (fun _ => hS) (fun w' => ?_) ?_
    rotate_left
    · unfold bareOp
      go_simp
      try with_reducible rfl
    simp only [Act.put, List.setIfInBounds_toArray, List.set_cons_zero, List.set_cons_succ]
    refine wpAnyB_takePG (i := 6) (some 28) (Op.move (Operand.tmp 2)) 22 (some (3, true)) (v := ?_) ⟨_, rfl, rfl, rfl, rfl, rfl⟩ rfl (by kernel_rfl) (by kernel_rfl) (by kernel_rfl) (by kernel_rfl) (fun _ _ _ h => h) (fun _ => hS) (fun w' => ?_) ?_
    rotate_left
    · unfold bareOp
      go_simp
      try with_reducible rfl
    simp only [Act.put, List.setIfInBounds_toArray, List.set_cons_zero, List.set_cons_succ]
    refine wpAnyB_takePG (i := 7) (some 29) (Op.move (Operand.tmp 3)) 22 (some (3, true)) (v := ?_) ⟨_, rfl, rfl, rfl, rfl, rfl⟩ rfl (by kernel_rfl) (by kernel_rfl) (by kernel_rfl) (by kernel_rfl) (fun _ _ _ h => h) (fun _ => hS) (fun w' => ?_) ?_
    rotate_left
    · unfold bareOp
      go_simp
      try with_reducible rfl
    simp only [Act.put, List.setIfInBounds_toArray, List.set_cons_zero, List.set_cons_succ]
    refine wpAnyB_takeG (i := 8) (some 30) (Op.load 26 (Operand.tmp 10)) 26 (some (3, true)) (v := ?_) ⟨_, rfl, rfl, rfl, rfl, rfl⟩ rfl (by kernel_rfl) (by kernel_rfl) (by kernel_rfl) [13] (by kernel_rfl) (fun _ _ _ h => h) hS (fun w' hSw => ?_) ?_
    rotate_left
    · obtain ⟨⟨s0, s1, s2⟩, ⟨s3, s4, s5⟩⟩ := hSw
      unfold bareOp
      go_simp
      try with_reducible rfl
    simp only [Act.put, List.setIfInBounds_toArray, List.set_cons_zero, List.set_cons_succ]
    refine wpAnyB_takeG (i := 9) (some 31) (Op.load 24 (Operand.tmp 6)) 24 (some (3, true)) (v := ?_) ⟨_, rfl, rfl, rfl, rfl, rfl⟩ rfl (by kernel_rfl) (by kernel_rfl) (by kernel_rfl) [12, 13] (by kernel_rfl) (fun _ _ _ h => h) hS (fun w' hSw => ?_) ?_
    rotate_left
    · obtain ⟨⟨s0, s1, s2⟩, ⟨s3, s4, s5⟩⟩ := hSw
      unfold bareOp
      go_simp
      try with_reducible rfl
    simp only [Act.put, List.setIfInBounds_toArray, List.set_cons_zero, List.set_cons_succ]
    refine wpAnyB_takePG (i := 10) (some 32) (Op.move (Operand.tmp 13)) 42 (some (3, true)) (v := ?_) ⟨_, rfl, rfl, rfl, rfl, rfl⟩ rfl (by kernel_rfl) (by kernel_rfl) (by kernel_rfl) (by kernel_rfl) (fun _ _ _ h => h) (fun _ => hS) (fun w' => ?_) ?_
    rotate_left
    · unfold bareOp
      go_simp
      try with_reducible rfl
    simp only [Act.put, List.setIfInBounds_toArray, List.set_cons_zero, List.set_cons_succ]
    refine wpAnyB_takePG (i := 11) (some 33) (Op.move (Operand.tmp 5)) 27 (some (3, true)) (v := ?_) ⟨_, rfl, rfl, rfl, rfl, rfl⟩ rfl (by kernel_rfl) (by kernel_rfl) (by kernel_rfl) (by kernel_rfl) (fun _ _ _ h => h) (fun _ => hS) (fun w' => ?_) ?_
    rotate_left
    · unfold bareOp
      go_simp
      try with_reducible rfl
    simp only [Act.put, List.setIfInBounds_toArray, List.set_cons_zero, List.set_cons_succ]
    refine wpAnyB_onlyG (i := 12) (some 34) (Op.call { callee := Callee.value (Operand.func 67), args := #[Operand.tmp 31, Operand.tmp 32, Operand.tmp 33], argTypes := #[24, 42, 27] }) 22 (some (3, true)) ⟨_, rfl, rfl, rfl, rfl, rfl⟩ (by kernel_rfl) rfl (fun K hK => ?_)
    unfold bareOp
    go_wp2_with (go_at_call 67; refine (rOf31_any _ (HT.out.keep HBW.out) HH.out F_ls.out HUS.out (by simp) (by simp) (by omega) HCC.out).mono ?_; rintro e w2 ⟨rfl, hb2⟩)
    replace F_g := Lib.hid (F_g.out.keep hb2)
    replace F_p := Lib.hid (F_p.out.keep hb2)
    replace F_ls := Lib.hid (F_ls.out.keep hb2)
    replace HBW := Lib.hid (HBW.out.trans (hb2.mono HBW.out.size))
    replace hS := And.intro F_g.out.s F_p.out.s3
    clear hb2
    refine hK.out _ _ (fun _ => hS) ?_
    clear hK K
    try simp only [Act.put, List.setIfInBounds_toArray, List.set_cons_zero, List.set_cons_succ]
    refine wpAnyB_onlyG (i := 13) (some 35) (Op.call { callee := Callee.value (Operand.func 38), args := #[Operand.tmp 26, Operand.tmp 27, Operand.tmp 28, Operand.tmp 29, Operand.tmp 30, Operand.tmp 34], argTypes := #[24, 22, 22, 22, 26, 22] }) 4 (some (3, true)) ⟨_, rfl, rfl, rfl, rfl, rfl⟩ (by kernel_rfl) rfl (fun K hK => ?_)
    unfold bareOp
    go_wp2_with (go_at_call 38; refine (rEqualIs_any (v := v) _ HH.out y0 yP a0 aP d0 dP R0 RP S0 SP UZ.out UH.out HZ.out).mono ?_; rintro e w3 ⟨rfl, hb3⟩)
    replace F_g := Lib.hid (F_g.out.keep hb3)
    replace F_p := Lib.hid (F_p.out.keep hb3)
    replace F_ls := Lib.hid (F_ls.out.keep hb3)
    replace HBW := Lib.hid (HBW.out.trans (hb3.mono HBW.out.size))
    replace hS := And.intro F_g.out.s F_p.out.s3
    clear hb3
    refine hK.out _ _ (fun h => absurd (h.symm.trans (by kernel_rfl : _ = true)) (by decide)) ?_
    clear hK K
    try simp only [Act.put, List.setIfInBounds_toArray, List.set_cons_zero, List.set_cons_succ]
    refine wpAnyB_takeP (i := 14) (some 36) (Op.pick (Operand.tmp 25) (Operand.tmp 35) (Operand.const (Value.bool false))) 4 (v := ?_) ⟨_, rfl, rfl, rfl, rfl, rfl⟩ (by kernel_rfl) (by kernel_rfl) (by kernel_rfl) (by kernel_rfl) (fun _ _ _ h => h) (fun h => absurd (h.symm.trans (by kernel_rfl : _ = true)) (by decide)) (fun w' => ?_) ?_
    rotate_left
    · unfold bareOp
      go_simp
      try with_reducible rfl
    simp only [Act.put, List.setIfInBounds_toArray, List.set_cons_zero, List.set_cons_succ]
    refine wpAnyB_takeP (i := 15) (some 12) (Op.assign (Operand.tmp 36)) 4 (v := ?_) ⟨_, rfl, rfl, rfl, rfl, rfl⟩ (by kernel_rfl) (by kernel_rfl) (by kernel_rfl) (by kernel_rfl) (fun _ _ _ h => h) (fun h => absurd (h.symm.trans (by kernel_rfl : _ = true)) (by decide)) (fun w' => ?_) ?_
    rotate_left
    · unfold bareOp
      go_simp
      try with_reducible rfl
    simp only [Act.put, List.setIfInBounds_toArray, List.set_cons_zero, List.set_cons_succ]
    refine wpAnyB_done (by kernel_rfl) ?_ _
    go_wp2_with fail
    go_ret
    exact ⟨rfl, HBW.out⟩

set_option maxRecDepth 100000 in
set_option maxHeartbeats 4000000 in
theorem reqVerify_any {P Q G y a d R S Z e' : Int} {v : Bool} {tx : Option Addr} {n cp : Nat} {T : List Int} (w : World) (hT : Txt w tx n T) (hP : 0 ≤ P) (hQ : 0 ≤ Q) (hG : 0 ≤ G) (y0 : 0 ≤ y) (a0 : 0 ≤ a) (d0 : 0 ≤ d) (R0 : 0 ≤ R) (S0 : 0 ≤ S) (Z0 : 0 ≤ Z) (hn : n ≤ 8100) (h : RetB (lgS (askS P Q G [Z] [y, a, d, R, S]) n) (evP P Q G y a d R S Z T) v e') :
    Calls Tryd.prog 15 #[.agg #[.int .u64 P, .int .u64 Q, .int .u64 G], .int .u64 y, .int .u64 a, .int .u64 d, .agg #[.int .u64 R, .int .u64 S, .int .u64 Z], .slice tx n cp] w fun e w' => e = .returned (.tuple #[.bool v, .int .i64 e']) ∧ Below w.heap.size w w' := by
  have HT := Lib.hid hT
  clear hT
  rcases h with ⟨h, hv, rfl⟩ | ⟨h, rfl, hc⟩
  · obtain ⟨h, hn8⟩ := lgS_zero h
    obtain ⟨hH, he, hnn⟩ := askS_zero h
    have HR := Lib.hid h
    have HV := Lib.hid hv
    have HLG := Lib.hid (show lgS 0 n = 0 from lgS_ok rfl hn8)
    have ZQ := he Z (by simp)
    have yP := hnn y (by simp)
    have aP := hnn a (by simp)
    have dP := hnn d (by simp)
    have RP := hnn R (by simp)
    have SP := hnn S (by simp)
    clear h hv he hnn
    obtain ⟨p5, p3, hQ', pq, g2, gP⟩ := id hH
    have hP1 : 1 ≤ P := by omega
    have hGM : G < 2147483648 := by omega
    have q3 : Q < 1073741824 := by omega
    have q2 : 2 ≤ Q := by omega
    have HH := Lib.hid hH
    clear hH pq
    have F_g := Lib.hid (show Boxed ((((w.alloc (.cells #[.int .u64 P, .int .u64 Q, .int .u64 G] 24)).alloc (.cells #[.int .u64 R, .int .u64 S, .int .u64 Z] 26)).alloc (.cells #[.int .u64 Z] 22)).alloc (.cells #[.int .u64 y, .int .u64 a, .int .u64 d, .int .u64 R, .int .u64 S] 22)) (w.heap.size) P Q G from (((Boxed.at _ P Q G _ (w.heap.size) (by simp)).alloc _).alloc _).alloc _)
    have F_es := Lib.hid (show ShL ((((w.alloc (.cells #[.int .u64 P, .int .u64 Q, .int .u64 G] 24)).alloc (.cells #[.int .u64 R, .int .u64 S, .int .u64 Z] 26)).alloc (.cells #[.int .u64 Z] 22)).alloc (.cells #[.int .u64 y, .int .u64 a, .int .u64 d, .int .u64 R, .int .u64 S] 22)) (some ⟨w.heap.size + 1 + 1, 0, none⟩) 1 1 [Z] from (ShL.laid _ [Z] _ _ (w.heap.size + 1 + 1) _ _ (by simp) rfl rfl).alloc _)
    have F_ns := Lib.hid (show ShL ((((w.alloc (.cells #[.int .u64 P, .int .u64 Q, .int .u64 G] 24)).alloc (.cells #[.int .u64 R, .int .u64 S, .int .u64 Z] 26)).alloc (.cells #[.int .u64 Z] 22)).alloc (.cells #[.int .u64 y, .int .u64 a, .int .u64 d, .int .u64 R, .int .u64 S] 22)) (some ⟨w.heap.size + 1 + 1 + 1, 0, none⟩) 5 5 [y, a, d, R, S] from ShL.laid _ [y, a, d, R, S] _ _ (w.heap.size + 1 + 1 + 1) _ _ (by simp) rfl rfl)
    have F_p := Lib.hid (show Arr .u64 ((((w.alloc (.cells #[.int .u64 P, .int .u64 Q, .int .u64 G] 24)).alloc (.cells #[.int .u64 R, .int .u64 S, .int .u64 Z] 26)).alloc (.cells #[.int .u64 Z] 22)).alloc (.cells #[.int .u64 y, .int .u64 a, .int .u64 d, .int .u64 R, .int .u64 S] 22)) (w.heap.size + 1) [R, S, Z] from ((Arr.new .u64 _ [R, S, Z] _ (w.heap.size + 1) (by simp)).alloc _).alloc _)
    have HBW := Lib.hid (show Below w.heap.size w ((((w.alloc (.cells #[.int .u64 P, .int .u64 Q, .int .u64 G] 24)).alloc (.cells #[.int .u64 R, .int .u64 S, .int .u64 Z] 26)).alloc (.cells #[.int .u64 Z] 22)).alloc (.cells #[.int .u64 y, .int .u64 a, .int .u64 d, .int .u64 R, .int .u64 S] 22)) from ((((Below.refl _ _).alloc (by simp <;> omega) _).alloc (by simp <;> omega) _).alloc (by simp <;> omega) _).alloc (by simp <;> omega) _)
    go_enter Tryd.func15, Tryd.ntmps15
    obtain ⟨q1_0, q1_1, q1_2, q1_3, q1_4, q1_5⟩ := Arr.k3 F_p.out
    obtain ⟨x0a, x0b, x0c, -⟩ := id F_g.out
    go_wp2_with fail
    clear x0a x0b x0c q1_0 q1_1 q1_2 q1_3 q1_4 q1_5
    refine (rAsked_any _ hP hQ hG F_es.out F_ns.out (by simp) (by simp) HR.out).mono ?_
    rintro e w1 ⟨rfl, hb1⟩
    replace F_g := Lib.hid (F_g.out.keep hb1)
    replace F_p := Lib.hid (F_p.out.keep hb1)
    replace F_es := Lib.hid (F_es.out.keep hb1)
    replace F_ns := Lib.hid (F_ns.out.keep hb1)
    replace HBW := Lib.hid (HBW.out.trans (hb1.mono HBW.out.size))
    clear hb1
    clear F_es
    clear F_ns
    obtain ⟨q1_0, q1_1, q1_2, q1_3, q1_4, q1_5⟩ := Arr.k3 F_p.out
    obtain ⟨x0a, x0b, x0c, -⟩ := id F_g.out
    go_wp2_with fail
    clear x0a x0b x0c q1_0 q1_1 q1_2 q1_3 q1_4 q1_5
    refine (rlong_any _ HLG.out).mono ?_
    rintro e w2 ⟨rfl, rfl⟩
    obtain ⟨q1_0, q1_1, q1_2, q1_3, q1_4, q1_5⟩ := Arr.k3 F_p.out
    obtain ⟨x0a, x0b, x0c, -⟩ := id F_g.out
    go_wp2_with fail
    clear x0a x0b x0c q1_0 q1_1 q1_2 q1_3 q1_4 q1_5
    refine (rEqualGood_any (v := v) _ (HT.out.keep HBW.out) HH.out y0 yP a0 aP d0 dP R0 RP S0 SP Z0 ZQ hn8 HV.out).mono ?_
    rintro e w3 ⟨rfl, hb3⟩
    replace F_g := Lib.hid (F_g.out.keep hb3)
    replace F_p := Lib.hid (F_p.out.keep hb3)
    replace HBW := Lib.hid (HBW.out.trans (hb3.mono HBW.out.size))
    clear hb3
    obtain ⟨q1_0, q1_1, q1_2, q1_3, q1_4, q1_5⟩ := Arr.k3 F_p.out
    obtain ⟨x0a, x0b, x0c, -⟩ := id F_g.out
    go_wp2_with fail
    go_ret2
    exact ⟨rfl, HBW.out⟩
  · by_cases ha : askS P Q G [Z] [y, a, d, R, S] = 0
    · have hn8 := lgS_long ha h
      obtain rfl : e' = 4 := by rw [hc]; exact lgS_four ha hn8
      have HR := Lib.hid ha
      have HLG := Lib.hid (show lgS 0 n = 4 from lgS_four rfl hn8)
      clear h hc ha
      have F_g := Lib.hid (show Boxed ((((w.alloc (.cells #[.int .u64 P, .int .u64 Q, .int .u64 G] 24)).alloc (.cells #[.int .u64 R, .int .u64 S, .int .u64 Z] 26)).alloc (.cells #[.int .u64 Z] 22)).alloc (.cells #[.int .u64 y, .int .u64 a, .int .u64 d, .int .u64 R, .int .u64 S] 22)) (w.heap.size) P Q G from (((Boxed.at _ P Q G _ (w.heap.size) (by simp)).alloc _).alloc _).alloc _)
      have F_es := Lib.hid (show ShL ((((w.alloc (.cells #[.int .u64 P, .int .u64 Q, .int .u64 G] 24)).alloc (.cells #[.int .u64 R, .int .u64 S, .int .u64 Z] 26)).alloc (.cells #[.int .u64 Z] 22)).alloc (.cells #[.int .u64 y, .int .u64 a, .int .u64 d, .int .u64 R, .int .u64 S] 22)) (some ⟨w.heap.size + 1 + 1, 0, none⟩) 1 1 [Z] from (ShL.laid _ [Z] _ _ (w.heap.size + 1 + 1) _ _ (by simp) rfl rfl).alloc _)
      have F_ns := Lib.hid (show ShL ((((w.alloc (.cells #[.int .u64 P, .int .u64 Q, .int .u64 G] 24)).alloc (.cells #[.int .u64 R, .int .u64 S, .int .u64 Z] 26)).alloc (.cells #[.int .u64 Z] 22)).alloc (.cells #[.int .u64 y, .int .u64 a, .int .u64 d, .int .u64 R, .int .u64 S] 22)) (some ⟨w.heap.size + 1 + 1 + 1, 0, none⟩) 5 5 [y, a, d, R, S] from ShL.laid _ [y, a, d, R, S] _ _ (w.heap.size + 1 + 1 + 1) _ _ (by simp) rfl rfl)
      have F_p := Lib.hid (show Arr .u64 ((((w.alloc (.cells #[.int .u64 P, .int .u64 Q, .int .u64 G] 24)).alloc (.cells #[.int .u64 R, .int .u64 S, .int .u64 Z] 26)).alloc (.cells #[.int .u64 Z] 22)).alloc (.cells #[.int .u64 y, .int .u64 a, .int .u64 d, .int .u64 R, .int .u64 S] 22)) (w.heap.size + 1) [R, S, Z] from ((Arr.new .u64 _ [R, S, Z] _ (w.heap.size + 1) (by simp)).alloc _).alloc _)
      have HBW := Lib.hid (show Below w.heap.size w ((((w.alloc (.cells #[.int .u64 P, .int .u64 Q, .int .u64 G] 24)).alloc (.cells #[.int .u64 R, .int .u64 S, .int .u64 Z] 26)).alloc (.cells #[.int .u64 Z] 22)).alloc (.cells #[.int .u64 y, .int .u64 a, .int .u64 d, .int .u64 R, .int .u64 S] 22)) from ((((Below.refl _ _).alloc (by simp <;> omega) _).alloc (by simp <;> omega) _).alloc (by simp <;> omega) _).alloc (by simp <;> omega) _)
      go_enter Tryd.func15, Tryd.ntmps15
      obtain ⟨q1_0, q1_1, q1_2, q1_3, q1_4, q1_5⟩ := Arr.k3 F_p.out
      obtain ⟨x0a, x0b, x0c, -⟩ := id F_g.out
      go_wp2_with fail
      clear x0a x0b x0c q1_0 q1_1 q1_2 q1_3 q1_4 q1_5
      refine (rAsked_any _ hP hQ hG F_es.out F_ns.out (by simp) (by simp) HR.out).mono ?_
      rintro e w1 ⟨rfl, hb1⟩
      replace F_g := Lib.hid (F_g.out.keep hb1)
      replace F_p := Lib.hid (F_p.out.keep hb1)
      replace F_es := Lib.hid (F_es.out.keep hb1)
      replace F_ns := Lib.hid (F_ns.out.keep hb1)
      replace HBW := Lib.hid (HBW.out.trans (hb1.mono HBW.out.size))
      clear hb1
      clear F_es
      clear F_ns
      obtain ⟨q1_0, q1_1, q1_2, q1_3, q1_4, q1_5⟩ := Arr.k3 F_p.out
      obtain ⟨x0a, x0b, x0c, -⟩ := id F_g.out
      go_wp2_with fail
      clear x0a x0b x0c q1_0 q1_1 q1_2 q1_3 q1_4 q1_5
      refine (rlong_any _ HLG.out).mono ?_
      rintro e w2 ⟨rfl, rfl⟩
      obtain ⟨q1_0, q1_1, q1_2, q1_3, q1_4, q1_5⟩ := Arr.k3 F_p.out
      obtain ⟨x0a, x0b, x0c, -⟩ := id F_g.out
      go_wp2_with fail
      go_ret2
      exact ⟨rfl, HBW.out⟩
    · have hc' : e' = askS P Q G [Z] [y, a, d, R, S] := by rw [hc]; exact lgS_ne ha
      have hnc : e' ≠ 0 := by rw [hc']; exact ha
      have hn1 : (e' != 0) = true := by simpa using hnc
      have HR := Lib.hid hc'.symm
      have HLG := Lib.hid (show lgS e' n = e' from lgS_ne hnc)
      clear h hc ha hc' hnc
      have F_g := Lib.hid (show Boxed ((((w.alloc (.cells #[.int .u64 P, .int .u64 Q, .int .u64 G] 24)).alloc (.cells #[.int .u64 R, .int .u64 S, .int .u64 Z] 26)).alloc (.cells #[.int .u64 Z] 22)).alloc (.cells #[.int .u64 y, .int .u64 a, .int .u64 d, .int .u64 R, .int .u64 S] 22)) (w.heap.size) P Q G from (((Boxed.at _ P Q G _ (w.heap.size) (by simp)).alloc _).alloc _).alloc _)
      have F_es := Lib.hid (show ShL ((((w.alloc (.cells #[.int .u64 P, .int .u64 Q, .int .u64 G] 24)).alloc (.cells #[.int .u64 R, .int .u64 S, .int .u64 Z] 26)).alloc (.cells #[.int .u64 Z] 22)).alloc (.cells #[.int .u64 y, .int .u64 a, .int .u64 d, .int .u64 R, .int .u64 S] 22)) (some ⟨w.heap.size + 1 + 1, 0, none⟩) 1 1 [Z] from (ShL.laid _ [Z] _ _ (w.heap.size + 1 + 1) _ _ (by simp) rfl rfl).alloc _)
      have F_ns := Lib.hid (show ShL ((((w.alloc (.cells #[.int .u64 P, .int .u64 Q, .int .u64 G] 24)).alloc (.cells #[.int .u64 R, .int .u64 S, .int .u64 Z] 26)).alloc (.cells #[.int .u64 Z] 22)).alloc (.cells #[.int .u64 y, .int .u64 a, .int .u64 d, .int .u64 R, .int .u64 S] 22)) (some ⟨w.heap.size + 1 + 1 + 1, 0, none⟩) 5 5 [y, a, d, R, S] from ShL.laid _ [y, a, d, R, S] _ _ (w.heap.size + 1 + 1 + 1) _ _ (by simp) rfl rfl)
      have F_p := Lib.hid (show Arr .u64 ((((w.alloc (.cells #[.int .u64 P, .int .u64 Q, .int .u64 G] 24)).alloc (.cells #[.int .u64 R, .int .u64 S, .int .u64 Z] 26)).alloc (.cells #[.int .u64 Z] 22)).alloc (.cells #[.int .u64 y, .int .u64 a, .int .u64 d, .int .u64 R, .int .u64 S] 22)) (w.heap.size + 1) [R, S, Z] from ((Arr.new .u64 _ [R, S, Z] _ (w.heap.size + 1) (by simp)).alloc _).alloc _)
      have HBW := Lib.hid (show Below w.heap.size w ((((w.alloc (.cells #[.int .u64 P, .int .u64 Q, .int .u64 G] 24)).alloc (.cells #[.int .u64 R, .int .u64 S, .int .u64 Z] 26)).alloc (.cells #[.int .u64 Z] 22)).alloc (.cells #[.int .u64 y, .int .u64 a, .int .u64 d, .int .u64 R, .int .u64 S] 22)) from ((((Below.refl _ _).alloc (by simp <;> omega) _).alloc (by simp <;> omega) _).alloc (by simp <;> omega) _).alloc (by simp <;> omega) _)
      go_enter Tryd.func15, Tryd.ntmps15
      obtain ⟨q1_0, q1_1, q1_2, q1_3, q1_4, q1_5⟩ := Arr.k3 F_p.out
      obtain ⟨x0a, x0b, x0c, -⟩ := id F_g.out
      go_wp2_with fail
      clear x0a x0b x0c q1_0 q1_1 q1_2 q1_3 q1_4 q1_5
      refine (rAsked_any _ hP hQ hG F_es.out F_ns.out (by simp) (by simp) HR.out).mono ?_
      rintro e w1 ⟨rfl, hb1⟩
      replace F_g := Lib.hid (F_g.out.keep hb1)
      replace F_p := Lib.hid (F_p.out.keep hb1)
      replace F_es := Lib.hid (F_es.out.keep hb1)
      replace F_ns := Lib.hid (F_ns.out.keep hb1)
      replace HBW := Lib.hid (HBW.out.trans (hb1.mono HBW.out.size))
      clear hb1
      clear F_es
      clear F_ns
      obtain ⟨q1_0, q1_1, q1_2, q1_3, q1_4, q1_5⟩ := Arr.k3 F_p.out
      obtain ⟨x0a, x0b, x0c, -⟩ := id F_g.out
      go_wp2_with fail
      clear x0a x0b x0c q1_0 q1_1 q1_2 q1_3 q1_4 q1_5
      refine (rlong_any _ HLG.out).mono ?_
      rintro e w2 ⟨rfl, rfl⟩
      obtain ⟨q1_0, q1_1, q1_2, q1_3, q1_4, q1_5⟩ := Arr.k3 F_p.out
      obtain ⟨x0a, x0b, x0c, -⟩ := id F_g.out
      go_wp2_with fail
      go_ret2
      exact ⟨rfl, HBW.out⟩
end Go.Proofs.YtmcpfinnhgbcpaaDoor
