/- proof.EqualVerify; the reference's equality proofs. -/
import Derived.Test.YtkjkdfhjfnoalaaGreatDoorTqK
import Derived.Test.YtkjkdfhjfnoalaaGreatDoorTqI
set_option linter.unusedSimpArgs false
set_option linter.unusedVariables false
set_option maxRecDepth 100000
namespace Go.Proofs.YtkjkdfhjfnoalaaGreatDoor
open Go Go.RowKit Num Sha
set_option maxHeartbeats 4000000 in
theorem peqVerify_any {P Q G y a d R S Z e' : Int} {v : Bool} {tx : Option Addr} {n cp : Nat} {T : List Int} (w : World) (hT : Txt w tx n T) (hP : 0 ≤ P) (hQ : 0 ≤ Q) (hG : 0 ≤ G) (y0 : 0 ≤ y) (a0 : 0 ≤ a) (d0 : 0 ≤ d) (R0 : 0 ≤ R) (S0 : 0 ≤ S) (Z0 : 0 ≤ Z) (hn : n ≤ 8100) (h : RetB (lgS (askS P Q G [Z] [y, a, d, R, S]) n) (evP P Q G y a d R S Z T) v e') :
    Calls Tryz.prog 46 #[.agg #[.int .u64 P, .int .u64 Q, .int .u64 G], .int .u64 y, .int .u64 a, .int .u64 d, .agg #[.int .u64 R, .int .u64 S, .int .u64 Z], .slice tx n cp] w fun e w' => e = .returned (.tuple #[.bool v, .int .i64 e']) ∧ Below w.heap.size w w' := by
  have HT := Lh hT
  clear hT
  rcases h with ⟨h, hv, rfl⟩ | ⟨h, rfl, hc⟩
  · obtain ⟨h, hn8⟩ := lgS_zero h
    obtain ⟨hH, he, hnn⟩ := askS_zero h
    have HR := Lh h
    have HV := Lh hv
    have HLG := Lh (show lgS 0 n = 0 from lgS_ok rfl hn8)
    have ZQ := he Z (by simp)
    have yP := hnn y (by simp)
    have aP := hnn a (by simp)
    have dP := hnn d (by simp)
    have RP := hnn R (by simp)
    have SP := hnn S (by simp)
    clear h hv he hnn
    obtain ⟨p5, p3, hQ', pq, g2, gP⟩ := id hH
    have hP1 : 1 ≤ P := by omega
    have hGM : G < 2147483648 := by omega
    have q3 : Q < 1073741824 := by omega
    have q2 : 2 ≤ Q := by omega
    have HH := Lh hH
    clear hH pq
    have HRG := Lh (show ∀ z, z ∈ [y, a, d, R, S] → 0 ≤ z ∧ z < P from fun z hz => by
     simp at hz
     rcases hz with rfl | rfl | rfl | rfl | rfl <;> exact ⟨by assumption, by assumption⟩)
    have HUS := Lh (show ∀ z, z ∈ [y, a, d, R, S] → U64 z from fun z hz => U64.of_lt (HRG.o z hz).1 (by have := (HRG.o z hz).2; omega))
    obtain ⟨h_, hh⟩ : ∃ h_, chV Q [y, a, d, R, S] T = h_ := ⟨_, rfl⟩
    obtain ⟨h0, hQQ⟩ : 0 ≤ h_ ∧ h_ < Q := by rw [← hh]; exact chV_range (by omega) _ _
    have HCC := Lh hh
    have UH := Lh (U64.of_lt h0 (by omega))
    have UZ := Lh (U64.of_lt Z0 (by omega))
    clear hh
    by_cases hM : memsP P Q [y, a, d, R, S]
    case neg =>
     have HM := Lh hM
     have HZ := Lh (show false = v by rw [Bool.eq_iff_iff, HV.o]; exact ⟨fun h => (by cases h), fun h => absurd h.1 HM.o⟩)
     clear hM
     have F_g := Lh (show Boxed ((((w.alloc (.cells #[.int .u64 P, .int .u64 Q, .int .u64 G] 24)).alloc (.cells #[.int .u64 R, .int .u64 S, .int .u64 Z] 53)).alloc (.cells #[.int .u64 Z] 22)).alloc (.cells #[.int .u64 y, .int .u64 a, .int .u64 d, .int .u64 R, .int .u64 S] 22)) (w.heap.size) P Q G from (((Boxed.at _ P Q G _ (w.heap.size) (by simp)).alloc _).alloc _).alloc _)
     have F_es := Lh (show ShL ((((w.alloc (.cells #[.int .u64 P, .int .u64 Q, .int .u64 G] 24)).alloc (.cells #[.int .u64 R, .int .u64 S, .int .u64 Z] 53)).alloc (.cells #[.int .u64 Z] 22)).alloc (.cells #[.int .u64 y, .int .u64 a, .int .u64 d, .int .u64 R, .int .u64 S] 22)) (some ⟨w.heap.size + 1 + 1, 0, none⟩) 1 1 [Z] from (ShL.laid _ [Z] _ _ (w.heap.size + 1 + 1) _ _ (by simp) rfl rfl).alloc _)
     have F_ns := Lh (show ShL ((((w.alloc (.cells #[.int .u64 P, .int .u64 Q, .int .u64 G] 24)).alloc (.cells #[.int .u64 R, .int .u64 S, .int .u64 Z] 53)).alloc (.cells #[.int .u64 Z] 22)).alloc (.cells #[.int .u64 y, .int .u64 a, .int .u64 d, .int .u64 R, .int .u64 S] 22)) (some ⟨w.heap.size + 1 + 1 + 1, 0, none⟩) 5 5 [y, a, d, R, S] from ShL.laid _ [y, a, d, R, S] _ _ (w.heap.size + 1 + 1 + 1) _ _ (by simp) rfl rfl)
     have F_p := Lh (show Arr .u64 ((((w.alloc (.cells #[.int .u64 P, .int .u64 Q, .int .u64 G] 24)).alloc (.cells #[.int .u64 R, .int .u64 S, .int .u64 Z] 53)).alloc (.cells #[.int .u64 Z] 22)).alloc (.cells #[.int .u64 y, .int .u64 a, .int .u64 d, .int .u64 R, .int .u64 S] 22)) (w.heap.size + 1) [R, S, Z] from ((Arr.new .u64 _ [R, S, Z] _ (w.heap.size + 1) (by simp)).alloc _).alloc _)
     have HBW := Lh (show Below w.heap.size w ((((w.alloc (.cells #[.int .u64 P, .int .u64 Q, .int .u64 G] 24)).alloc (.cells #[.int .u64 R, .int .u64 S, .int .u64 Z] 53)).alloc (.cells #[.int .u64 Z] 22)).alloc (.cells #[.int .u64 y, .int .u64 a, .int .u64 d, .int .u64 R, .int .u64 S] 22)) from ((((Below.refl _ _).alloc (by simp <;> omega) _).alloc (by simp <;> omega) _).alloc (by simp <;> omega) _).alloc (by simp <;> omega) _)
     go_enter Tryz.func46, Tryz.ntmps46
     obtain ⟨q1_0, q1_1, q1_2, q1_3, q1_4, q1_5⟩ := Arr.k3 F_p.o
     obtain ⟨x0a, x0b, x0c, -⟩ := id F_g.o
     go_wp2_with fail
     clear x0a x0b x0c q1_0 q1_1 q1_2 q1_3 q1_4 q1_5
     refine (pcheck_any _ hP hQ hG F_es.o F_ns.o (by simp) (by simp) HR.o).mono ?_
     rintro e w1 ⟨rfl, hb1⟩
     replace F_g := Lh (F_g.o.keep hb1)
     replace F_p := Lh (F_p.o.keep hb1)
     replace F_es := Lh (F_es.o.keep hb1)
     replace F_ns := Lh (F_ns.o.keep hb1)
     replace HBW := Lh (HBW.o.trans (hb1.mono HBW.o.size))
     clear hb1
     clear F_es
     clear F_ns
     obtain ⟨q1_0, q1_1, q1_2, q1_3, q1_4, q1_5⟩ := Arr.k3 F_p.o
     obtain ⟨x0a, x0b, x0c, -⟩ := id F_g.o
     go_wp2_with fail
     clear x0a x0b x0c q1_0 q1_1 q1_2 q1_3 q1_4 q1_5
     refine (plong_any _ HLG.o).mono ?_
     rintro e w2 ⟨rfl, rfl⟩
     obtain ⟨q1_0, q1_1, q1_2, q1_3, q1_4, q1_5⟩ := Arr.k3 F_p.o
     obtain ⟨x0a, x0b, x0c, -⟩ := id F_g.o
     go_wp2_with fail
     clear x0a x0b x0c q1_0 q1_1 q1_2 q1_3 q1_4 q1_5
     replace F_g := Lh (F_g.o.alloc (.cells #[.int .u64 y, .int .u64 a, .int .u64 d, .int .u64 R, .int .u64 S] 22))
     replace F_p := Lh (F_p.o.alloc (.cells #[.int .u64 y, .int .u64 a, .int .u64 d, .int .u64 R, .int .u64 S] 22))
     have F_ms := Lh (ShL.laid w1 [y, a, d, R, S] _ 22 _ 5 5 rfl rfl rfl)
     replace HBW := Lh (HBW.o.alloc HBW.o.size (.cells #[.int .u64 y, .int .u64 a, .int .u64 d, .int .u64 R, .int .u64 S] 22))
     refine (pmembers_any (v := false) _ HH.o F_ms.o HRG.o (by simp) ⟨fun h => (by cases h), fun h => absurd h HM.o⟩).mono ?_
     rintro e w3 ⟨rfl, hb3⟩
     replace F_g := Lh (F_g.o.keep hb3)
     replace F_p := Lh (F_p.o.keep hb3)
     replace F_ms := Lh (F_ms.o.keep hb3)
     replace HBW := Lh (HBW.o.trans (hb3.mono HBW.o.size))
     clear hb3
     clear F_ms
     obtain ⟨q1_0, q1_1, q1_2, q1_3, q1_4, q1_5⟩ := Arr.k3 F_p.o
     obtain ⟨x0a, x0b, x0c, -⟩ := id F_g.o
     go_wp2_with fail
     go_ret2
     exact ⟨ret_bi HZ.o rfl, HBW.o⟩
    case pos =>
     have HM := Lh hM
     have HFI := Lh (show RetB (askS P Q G [Z, h_] [y, a, d, R, S]) (powm G Z P = R * powm y h_ P % P ∧ powm a Z P = S * powm d h_ P % P) v 0 from .inl ⟨askS_ok HH.o (by simp; omega) (by simp; omega), HV.o.trans ⟨fun h => by rw [← HCC.o]; exact h.2, fun h => ⟨HM.o, by rw [HCC.o]; exact h⟩⟩, rfl⟩)
     clear hM
     have F_g := Lh (show Boxed ((((w.alloc (.cells #[.int .u64 P, .int .u64 Q, .int .u64 G] 24)).alloc (.cells #[.int .u64 R, .int .u64 S, .int .u64 Z] 53)).alloc (.cells #[.int .u64 Z] 22)).alloc (.cells #[.int .u64 y, .int .u64 a, .int .u64 d, .int .u64 R, .int .u64 S] 22)) (w.heap.size) P Q G from (((Boxed.at _ P Q G _ (w.heap.size) (by simp)).alloc _).alloc _).alloc _)
     have F_es := Lh (show ShL ((((w.alloc (.cells #[.int .u64 P, .int .u64 Q, .int .u64 G] 24)).alloc (.cells #[.int .u64 R, .int .u64 S, .int .u64 Z] 53)).alloc (.cells #[.int .u64 Z] 22)).alloc (.cells #[.int .u64 y, .int .u64 a, .int .u64 d, .int .u64 R, .int .u64 S] 22)) (some ⟨w.heap.size + 1 + 1, 0, none⟩) 1 1 [Z] from (ShL.laid _ [Z] _ _ (w.heap.size + 1 + 1) _ _ (by simp) rfl rfl).alloc _)
     have F_ns := Lh (show ShL ((((w.alloc (.cells #[.int .u64 P, .int .u64 Q, .int .u64 G] 24)).alloc (.cells #[.int .u64 R, .int .u64 S, .int .u64 Z] 53)).alloc (.cells #[.int .u64 Z] 22)).alloc (.cells #[.int .u64 y, .int .u64 a, .int .u64 d, .int .u64 R, .int .u64 S] 22)) (some ⟨w.heap.size + 1 + 1 + 1, 0, none⟩) 5 5 [y, a, d, R, S] from ShL.laid _ [y, a, d, R, S] _ _ (w.heap.size + 1 + 1 + 1) _ _ (by simp) rfl rfl)
     have F_p := Lh (show Arr .u64 ((((w.alloc (.cells #[.int .u64 P, .int .u64 Q, .int .u64 G] 24)).alloc (.cells #[.int .u64 R, .int .u64 S, .int .u64 Z] 53)).alloc (.cells #[.int .u64 Z] 22)).alloc (.cells #[.int .u64 y, .int .u64 a, .int .u64 d, .int .u64 R, .int .u64 S] 22)) (w.heap.size + 1) [R, S, Z] from ((Arr.new .u64 _ [R, S, Z] _ (w.heap.size + 1) (by simp)).alloc _).alloc _)
     have HBW := Lh (show Below w.heap.size w ((((w.alloc (.cells #[.int .u64 P, .int .u64 Q, .int .u64 G] 24)).alloc (.cells #[.int .u64 R, .int .u64 S, .int .u64 Z] 53)).alloc (.cells #[.int .u64 Z] 22)).alloc (.cells #[.int .u64 y, .int .u64 a, .int .u64 d, .int .u64 R, .int .u64 S] 22)) from ((((Below.refl _ _).alloc (by simp <;> omega) _).alloc (by simp <;> omega) _).alloc (by simp <;> omega) _).alloc (by simp <;> omega) _)
     go_enter Tryz.func46, Tryz.ntmps46
     obtain ⟨q1_0, q1_1, q1_2, q1_3, q1_4, q1_5⟩ := Arr.k3 F_p.o
     obtain ⟨x0a, x0b, x0c, -⟩ := id F_g.o
     go_wp2_with fail
     clear x0a x0b x0c q1_0 q1_1 q1_2 q1_3 q1_4 q1_5
     refine (pcheck_any _ hP hQ hG F_es.o F_ns.o (by simp) (by simp) HR.o).mono ?_
     rintro e w1 ⟨rfl, hb1⟩
     replace F_g := Lh (F_g.o.keep hb1)
     replace F_p := Lh (F_p.o.keep hb1)
     replace F_es := Lh (F_es.o.keep hb1)
     replace F_ns := Lh (F_ns.o.keep hb1)
     replace HBW := Lh (HBW.o.trans (hb1.mono HBW.o.size))
     clear hb1
     clear F_es
     clear F_ns
     obtain ⟨q1_0, q1_1, q1_2, q1_3, q1_4, q1_5⟩ := Arr.k3 F_p.o
     obtain ⟨x0a, x0b, x0c, -⟩ := id F_g.o
     go_wp2_with fail
     clear x0a x0b x0c q1_0 q1_1 q1_2 q1_3 q1_4 q1_5
     refine (plong_any _ HLG.o).mono ?_
     rintro e w2 ⟨rfl, rfl⟩
     obtain ⟨q1_0, q1_1, q1_2, q1_3, q1_4, q1_5⟩ := Arr.k3 F_p.o
     obtain ⟨x0a, x0b, x0c, -⟩ := id F_g.o
     go_wp2_with fail
     clear x0a x0b x0c q1_0 q1_1 q1_2 q1_3 q1_4 q1_5
     replace F_g := Lh (F_g.o.alloc (.cells #[.int .u64 y, .int .u64 a, .int .u64 d, .int .u64 R, .int .u64 S] 22))
     replace F_p := Lh (F_p.o.alloc (.cells #[.int .u64 y, .int .u64 a, .int .u64 d, .int .u64 R, .int .u64 S] 22))
     have F_ms := Lh (ShL.laid w1 [y, a, d, R, S] _ 22 _ 5 5 rfl rfl rfl)
     replace HBW := Lh (HBW.o.alloc HBW.o.size (.cells #[.int .u64 y, .int .u64 a, .int .u64 d, .int .u64 R, .int .u64 S] 22))
     refine (pmembers_any (v := true) _ HH.o F_ms.o HRG.o (by simp) ⟨fun _ => HM.o, fun _ => rfl⟩).mono ?_
     rintro e w3 ⟨rfl, hb3⟩
     replace F_g := Lh (F_g.o.keep hb3)
     replace F_p := Lh (F_p.o.keep hb3)
     replace F_ms := Lh (F_ms.o.keep hb3)
     replace HBW := Lh (HBW.o.trans (hb3.mono HBW.o.size))
     clear hb3
     clear F_ms
     obtain ⟨q1_0, q1_1, q1_2, q1_3, q1_4, q1_5⟩ := Arr.k3 F_p.o
     obtain ⟨x0a, x0b, x0c, -⟩ := id F_g.o
     go_wp2_with fail
     clear x0a x0b x0c q1_0 q1_1 q1_2 q1_3 q1_4 q1_5
     replace F_g := Lh F_g.o.drew
     replace F_p := Lh F_p.o.drew
     replace HBW := Lh HBW.o.drew
     have hS := And.intro F_g.o.s F_p.o.s3
     refine wp_region_stage 16 (fun w' => SBox w' w.heap.size P Q G ∧ S3 w' (w.heap.size + 1) R S Z) (by kernel_rfl) ?_
     refine tkL (i := 0) (some 48) (.load 24 (.tmp 6)) 24 [16] (v := ?_) hS (fun w' hSw => ?_) ?_
     rotate_left
     · obtain ⟨⟨s0, s1, s2⟩, ⟨s3, s4, s5⟩⟩ := hSw
       unfold bareOp; go_simp; try with_reducible rfl
     simp only [Act.put, sZ]
     refine tkP (i := 1) (some 49) (.move (.tmp 1)) 22 (fun _ => hS) ?_
     simp only [Act.put, sZ]
     refine tkP (i := 2) (some 50) (.move (.tmp 2)) 22 (fun _ => hS) ?_
     simp only [Act.put, sZ]
     refine tkP (i := 3) (some 51) (.move (.tmp 3)) 22 (fun _ => hS) ?_
     simp only [Act.put, sZ]
     refine tkL (i := 4) (some 52) (.load 53 (.tmp 10)) 53 [16] (v := ?_) hS (fun w' hSw => ?_) ?_
     rotate_left
     · obtain ⟨⟨s0, s1, s2⟩, ⟨s3, s4, s5⟩⟩ := hSw
       unfold bareOp; go_simp; try with_reducible rfl
     simp only [Act.put, sZ]
     refine tkL (i := 5) (some 53) (.load 24 (.tmp 6)) 24 [15, 16] (v := ?_) hS (fun w' hSw => ?_) ?_
     rotate_left
     · obtain ⟨⟨s0, s1, s2⟩, ⟨s3, s4, s5⟩⟩ := hSw
       unfold bareOp; go_simp; try with_reducible rfl
     simp only [Act.put, sZ]
     refine tkP (i := 6) (some 54) (.move (.tmp 5)) 56 (fun _ => hS) ?_
     simp only [Act.put, sZ]
     refine tkP (i := 7) (some 55) (.move (.tmp 1)) 22 (fun _ => hS) ?_
     simp only [Act.put, sZ]
     refine tkP (i := 8) (some 56) (.move (.tmp 2)) 22 (fun _ => hS) ?_
     simp only [Act.put, sZ]
     refine tkP (i := 9) (some 57) (.move (.tmp 3)) 22 (fun _ => hS) ?_
     simp only [Act.put, sZ]
     refine tkP (i := 10) (some 58) (.fieldAddr 53 (.tmp 10) 0) 0 (fun _ => hS) ?_
     simp only [Act.put, sZ]
     refine tkL (i := 11) (some 59) (.load 22 (.tmp 58)) 22 [14, 15, 16] (v := ?_) hS (fun w' hSw => ?_) ?_
     rotate_left
     · obtain ⟨⟨s0, s1, s2⟩, ⟨s3, s4, s5⟩⟩ := hSw
       unfold bareOp; go_simp; try with_reducible rfl
     simp only [Act.put, sZ]
     refine tkP (i := 12) (some 60) (.fieldAddr 53 (.tmp 10) 1) 0 (fun _ => hS) ?_
     simp only [Act.put, sZ]
     refine tkL (i := 13) (some 61) (.load 22 (.tmp 60)) 22 [14, 15, 16] (v := ?_) hS (fun w' hSw => ?_) ?_
     rotate_left
     · obtain ⟨⟨s0, s1, s2⟩, ⟨s3, s4, s5⟩⟩ := hSw
       unfold bareOp; go_simp; try with_reducible rfl
     simp only [Act.put, sZ]
     refine onl (i := 14) (some 62) (.buildSlice 26 5 #[(0, .tmp 55), (1, .tmp 56), (2, .tmp 57), (3, .tmp 59), (4, .tmp 61)]) 26 (fun K hK => ?_)
     unfold bareOp
     go_wp2_with fail
     have F_ms := Lh (ShL.laid w3.drew [y, a, d, R, S] _ 22 _ 5 5 rfl rfl rfl)
     replace F_g := Lh (F_g.o.alloc (.cells #[.int .u64 y, .int .u64 a, .int .u64 d, .int .u64 R, .int .u64 S] 22))
     replace F_p := Lh (F_p.o.alloc (.cells #[.int .u64 y, .int .u64 a, .int .u64 d, .int .u64 R, .int .u64 S] 22))
     replace HBW := Lh (HBW.o.alloc HBW.o.size (.cells #[.int .u64 y, .int .u64 a, .int .u64 d, .int .u64 R, .int .u64 S] 22))
     replace hS := And.intro F_g.o.s F_p.o.s3
     refine hK.o _ _ (fun _ => hS) ?_
     clear hK K
     try simp only [Act.put, sZ]
     refine onl (i := 15) (some 63) (.call { callee := .value (.func 38), args := #[.tmp 53, .tmp 54, .tmp 62], argTypes := #[24, 56, 26] }) 22 (fun K hK => ?_)
     unfold bareOp
     go_wp2_with (go_at_call 38; refine (pchallenge_any _ (HT.o.keep HBW.o) HH.o F_ms.o HUS.o (by simp) hn8 HCC.o).mono ?_; rintro e w4 ⟨rfl, hb4⟩)
     replace F_g := Lh (F_g.o.keep hb4)
     replace F_p := Lh (F_p.o.keep hb4)
     replace F_ms := Lh (F_ms.o.keep hb4)
     replace HBW := Lh (HBW.o.trans (hb4.mono HBW.o.size))
     replace hS := And.intro F_g.o.s F_p.o.s3
     clear hb4
     refine hK.o _ _ (fun _ => hS) ?_
     clear hK K
     try simp only [Act.put, sZ]
     refine onl (i := 16) (some 64) (.call { callee := .value (.func 66), args := #[.tmp 48, .tmp 49, .tmp 50, .tmp 51, .tmp 52, .tmp 63], argTypes := #[24, 22, 22, 22, 53, 22] }) 37 (fun K hK => ?_)
     unfold bareOp
     go_wp2_with (go_at_call 66; refine (equalHolds_any (v := v) (e' := 0) _ hP hQ hG y0 a0 d0 R0 S0 Z0 h0 HFI.o).mono ?_; rintro e w5 ⟨rfl, hb5⟩)
     replace F_g := Lh (F_g.o.keep hb5)
     replace F_p := Lh (F_p.o.keep hb5)
     replace F_ms := Lh (F_ms.o.keep hb5)
     replace HBW := Lh (HBW.o.trans (hb5.mono HBW.o.size))
     replace hS := And.intro F_g.o.s F_p.o.s3
     clear hb5
     refine hK.o _ _ lt8 ?_
     clear hK K
     try simp only [Act.put, sZ]
     refine tkP (i := 17) (some 65) (.extract (.tmp 64) 0) 4 lt8 ?_
     simp only [Act.put, sZ]
     refine tkP (i := 18) (some 66) (.extract (.tmp 64) 1) 32 lt8 ?_
     simp only [Act.put, sZ]
     refine tkP (i := 19) (some 12) (.assign (.tmp 65)) 4 lt8 ?_
     simp only [Act.put, sZ]
     refine tkP (i := 20) (some 13) (.assign (.tmp 66)) 32 lt8 ?_
     simp only [Act.put, sZ]
     refine wpAnyB_done (by kernel_rfl) ?_ _
     clear F_ms
     go_wp2_with fail
     go_ret2
     exact ⟨rfl, HBW.o⟩
  · by_cases ha : askS P Q G [Z] [y, a, d, R, S] = 0
    · have hn8 := lgS_long ha h
      obtain rfl : e' = 4 := by rw [hc]; exact lgS_four ha hn8
      have HR := Lh ha
      have HLG := Lh (show lgS 0 n = 4 from lgS_four rfl hn8)
      clear h hc ha
      have F_g := Lh (show Boxed ((((w.alloc (.cells #[.int .u64 P, .int .u64 Q, .int .u64 G] 24)).alloc (.cells #[.int .u64 R, .int .u64 S, .int .u64 Z] 53)).alloc (.cells #[.int .u64 Z] 22)).alloc (.cells #[.int .u64 y, .int .u64 a, .int .u64 d, .int .u64 R, .int .u64 S] 22)) (w.heap.size) P Q G from (((Boxed.at _ P Q G _ (w.heap.size) (by simp)).alloc _).alloc _).alloc _)
      have F_es := Lh (show ShL ((((w.alloc (.cells #[.int .u64 P, .int .u64 Q, .int .u64 G] 24)).alloc (.cells #[.int .u64 R, .int .u64 S, .int .u64 Z] 53)).alloc (.cells #[.int .u64 Z] 22)).alloc (.cells #[.int .u64 y, .int .u64 a, .int .u64 d, .int .u64 R, .int .u64 S] 22)) (some ⟨w.heap.size + 1 + 1, 0, none⟩) 1 1 [Z] from (ShL.laid _ [Z] _ _ (w.heap.size + 1 + 1) _ _ (by simp) rfl rfl).alloc _)
      have F_ns := Lh (show ShL ((((w.alloc (.cells #[.int .u64 P, .int .u64 Q, .int .u64 G] 24)).alloc (.cells #[.int .u64 R, .int .u64 S, .int .u64 Z] 53)).alloc (.cells #[.int .u64 Z] 22)).alloc (.cells #[.int .u64 y, .int .u64 a, .int .u64 d, .int .u64 R, .int .u64 S] 22)) (some ⟨w.heap.size + 1 + 1 + 1, 0, none⟩) 5 5 [y, a, d, R, S] from ShL.laid _ [y, a, d, R, S] _ _ (w.heap.size + 1 + 1 + 1) _ _ (by simp) rfl rfl)
      have F_p := Lh (show Arr .u64 ((((w.alloc (.cells #[.int .u64 P, .int .u64 Q, .int .u64 G] 24)).alloc (.cells #[.int .u64 R, .int .u64 S, .int .u64 Z] 53)).alloc (.cells #[.int .u64 Z] 22)).alloc (.cells #[.int .u64 y, .int .u64 a, .int .u64 d, .int .u64 R, .int .u64 S] 22)) (w.heap.size + 1) [R, S, Z] from ((Arr.new .u64 _ [R, S, Z] _ (w.heap.size + 1) (by simp)).alloc _).alloc _)
      have HBW := Lh (show Below w.heap.size w ((((w.alloc (.cells #[.int .u64 P, .int .u64 Q, .int .u64 G] 24)).alloc (.cells #[.int .u64 R, .int .u64 S, .int .u64 Z] 53)).alloc (.cells #[.int .u64 Z] 22)).alloc (.cells #[.int .u64 y, .int .u64 a, .int .u64 d, .int .u64 R, .int .u64 S] 22)) from ((((Below.refl _ _).alloc (by simp <;> omega) _).alloc (by simp <;> omega) _).alloc (by simp <;> omega) _).alloc (by simp <;> omega) _)
      go_enter Tryz.func46, Tryz.ntmps46
      obtain ⟨q1_0, q1_1, q1_2, q1_3, q1_4, q1_5⟩ := Arr.k3 F_p.o
      obtain ⟨x0a, x0b, x0c, -⟩ := id F_g.o
      go_wp2_with fail
      clear x0a x0b x0c q1_0 q1_1 q1_2 q1_3 q1_4 q1_5
      refine (pcheck_any _ hP hQ hG F_es.o F_ns.o (by simp) (by simp) HR.o).mono ?_
      rintro e w1 ⟨rfl, hb1⟩
      replace F_g := Lh (F_g.o.keep hb1)
      replace F_p := Lh (F_p.o.keep hb1)
      replace F_es := Lh (F_es.o.keep hb1)
      replace F_ns := Lh (F_ns.o.keep hb1)
      replace HBW := Lh (HBW.o.trans (hb1.mono HBW.o.size))
      clear hb1
      clear F_es
      clear F_ns
      obtain ⟨q1_0, q1_1, q1_2, q1_3, q1_4, q1_5⟩ := Arr.k3 F_p.o
      obtain ⟨x0a, x0b, x0c, -⟩ := id F_g.o
      go_wp2_with fail
      clear x0a x0b x0c q1_0 q1_1 q1_2 q1_3 q1_4 q1_5
      refine (plong_any _ HLG.o).mono ?_
      rintro e w2 ⟨rfl, rfl⟩
      obtain ⟨q1_0, q1_1, q1_2, q1_3, q1_4, q1_5⟩ := Arr.k3 F_p.o
      obtain ⟨x0a, x0b, x0c, -⟩ := id F_g.o
      go_wp2_with fail
      go_ret2
      exact ⟨rfl, HBW.o⟩
    · have hc' : e' = askS P Q G [Z] [y, a, d, R, S] := by rw [hc]; exact lgS_ne ha
      have hnc : e' ≠ 0 := by rw [hc']; exact ha
      have hn1 : (e' != 0) = true := by simpa using hnc
      have HR := Lh hc'.symm
      have HLG := Lh (show lgS e' n = e' from lgS_ne hnc)
      clear h hc ha hc' hnc
      have F_g := Lh (show Boxed ((((w.alloc (.cells #[.int .u64 P, .int .u64 Q, .int .u64 G] 24)).alloc (.cells #[.int .u64 R, .int .u64 S, .int .u64 Z] 53)).alloc (.cells #[.int .u64 Z] 22)).alloc (.cells #[.int .u64 y, .int .u64 a, .int .u64 d, .int .u64 R, .int .u64 S] 22)) (w.heap.size) P Q G from (((Boxed.at _ P Q G _ (w.heap.size) (by simp)).alloc _).alloc _).alloc _)
      have F_es := Lh (show ShL ((((w.alloc (.cells #[.int .u64 P, .int .u64 Q, .int .u64 G] 24)).alloc (.cells #[.int .u64 R, .int .u64 S, .int .u64 Z] 53)).alloc (.cells #[.int .u64 Z] 22)).alloc (.cells #[.int .u64 y, .int .u64 a, .int .u64 d, .int .u64 R, .int .u64 S] 22)) (some ⟨w.heap.size + 1 + 1, 0, none⟩) 1 1 [Z] from (ShL.laid _ [Z] _ _ (w.heap.size + 1 + 1) _ _ (by simp) rfl rfl).alloc _)
      have F_ns := Lh (show ShL ((((w.alloc (.cells #[.int .u64 P, .int .u64 Q, .int .u64 G] 24)).alloc (.cells #[.int .u64 R, .int .u64 S, .int .u64 Z] 53)).alloc (.cells #[.int .u64 Z] 22)).alloc (.cells #[.int .u64 y, .int .u64 a, .int .u64 d, .int .u64 R, .int .u64 S] 22)) (some ⟨w.heap.size + 1 + 1 + 1, 0, none⟩) 5 5 [y, a, d, R, S] from ShL.laid _ [y, a, d, R, S] _ _ (w.heap.size + 1 + 1 + 1) _ _ (by simp) rfl rfl)
      have F_p := Lh (show Arr .u64 ((((w.alloc (.cells #[.int .u64 P, .int .u64 Q, .int .u64 G] 24)).alloc (.cells #[.int .u64 R, .int .u64 S, .int .u64 Z] 53)).alloc (.cells #[.int .u64 Z] 22)).alloc (.cells #[.int .u64 y, .int .u64 a, .int .u64 d, .int .u64 R, .int .u64 S] 22)) (w.heap.size + 1) [R, S, Z] from ((Arr.new .u64 _ [R, S, Z] _ (w.heap.size + 1) (by simp)).alloc _).alloc _)
      have HBW := Lh (show Below w.heap.size w ((((w.alloc (.cells #[.int .u64 P, .int .u64 Q, .int .u64 G] 24)).alloc (.cells #[.int .u64 R, .int .u64 S, .int .u64 Z] 53)).alloc (.cells #[.int .u64 Z] 22)).alloc (.cells #[.int .u64 y, .int .u64 a, .int .u64 d, .int .u64 R, .int .u64 S] 22)) from ((((Below.refl _ _).alloc (by simp <;> omega) _).alloc (by simp <;> omega) _).alloc (by simp <;> omega) _).alloc (by simp <;> omega) _)
      go_enter Tryz.func46, Tryz.ntmps46
      obtain ⟨q1_0, q1_1, q1_2, q1_3, q1_4, q1_5⟩ := Arr.k3 F_p.o
      obtain ⟨x0a, x0b, x0c, -⟩ := id F_g.o
      go_wp2_with fail
      clear x0a x0b x0c q1_0 q1_1 q1_2 q1_3 q1_4 q1_5
      refine (pcheck_any _ hP hQ hG F_es.o F_ns.o (by simp) (by simp) HR.o).mono ?_
      rintro e w1 ⟨rfl, hb1⟩
      replace F_g := Lh (F_g.o.keep hb1)
      replace F_p := Lh (F_p.o.keep hb1)
      replace F_es := Lh (F_es.o.keep hb1)
      replace F_ns := Lh (F_ns.o.keep hb1)
      replace HBW := Lh (HBW.o.trans (hb1.mono HBW.o.size))
      clear hb1
      clear F_es
      clear F_ns
      obtain ⟨q1_0, q1_1, q1_2, q1_3, q1_4, q1_5⟩ := Arr.k3 F_p.o
      obtain ⟨x0a, x0b, x0c, -⟩ := id F_g.o
      go_wp2_with fail
      go_ret2
      exact ⟨rfl, HBW.o⟩
set_option maxHeartbeats 4000000 in
theorem rEqualOf_any {P Q G a x k R S Z : Int} {tx : Option Addr} {n cp : Nat} {T : List Int} (w : World) (hT : Txt w tx n T) (hH : Has P Q G) (a0 : 0 ≤ a) (aP : a < P) (x0 : 0 ≤ x) (xQ : x < Q) (k0 : 0 ≤ k) (kQ : k < Q) (hn8 : n ≤ 8000) (hR : R = powm G k P) (hS : S = powm a k P) (hZ : Z = eqZ P Q G a x k T) :
    Calls Tryz.prog 43 #[.agg #[.int .u64 P, .int .u64 Q, .int .u64 G], .int .u64 a, .int .u64 x, .int .u64 k, .slice tx n cp] w fun e w' => e = .returned (.agg #[.int .u64 R, .int .u64 S, .int .u64 Z]) ∧ Below w.heap.size w w' := by
  have HT := Lh hT
  clear hT
  obtain ⟨p5, p3, hQ', pq, g2, gP⟩ := id hH
  have hP1 : 1 ≤ P := by omega
  have hGM : G < 2147483648 := by omega
  have q3 : Q < 1073741824 := by omega
  have q2 : 2 ≤ Q := by omega
  have HH := Lh hH
  clear hH pq
  have hG : 0 ≤ G := by omega
  have PM : P < 2147483648 := by omega
  have aM : a < 2147483648 := by omega
  have y0_ := 0
  obtain ⟨y, hy⟩ : ∃ y, powm G x P = y := ⟨_, rfl⟩
  obtain ⟨d, hd_⟩ : ∃ d, powm a x P = d := ⟨_, rfl⟩
  have hRk : powm G k P = R := hR.symm
  have hSk : powm a k P = S := hS.symm
  obtain ⟨h_, hh⟩ : ∃ h_, chV Q [y, a, d, R, S] T = h_ := ⟨_, rfl⟩
  have hZk : (k + h_ * x % Q) % Q = Z := by rw [hZ, eqZ, hy, hd_, hRk, hSk, hh]
  obtain ⟨h0, hQQ⟩ : 0 ≤ h_ ∧ h_ < Q := by rw [← hh]; exact chV_range (by omega) _ _
  have y0 : 0 ≤ y := by rw [← hy]; exact powm_nonneg (by omega)
  have yP : y < P := by rw [← hy]; exact powm_lt (by omega)
  have d0 : 0 ≤ d := by rw [← hd_]; exact powm_nonneg (by omega)
  have dP : d < P := by rw [← hd_]; exact powm_lt (by omega)
  have R0 : 0 ≤ R := by rw [← hRk]; exact powm_nonneg (by omega)
  have RP : R < P := by rw [← hRk]; exact powm_lt (by omega)
  have S0 : 0 ≤ S := by rw [← hSk]; exact powm_nonneg (by omega)
  have SP : S < P := by rw [← hSk]; exact powm_lt (by omega)
  have UX := Lh (U64.of_lt x0 (by omega))
  have UK := Lh (U64.of_lt k0 (by omega))
  have HY := Lh hy
  have HD_ := Lh hd_
  have HRK := Lh hRk
  have HSK := Lh hSk
  have HCC := Lh hh
  have HUS := Lh (show ∀ z, z ∈ [y, a, d, R, S] → U64 z from fun z hz => by
   simp at hz
   rcases hz with rfl | rfl | rfl | rfl | rfl
   · exact U64.of_lt y0 (by omega)
   · exact U64.of_lt a0 (by omega)
   · exact U64.of_lt d0 (by omega)
   · exact U64.of_lt R0 (by omega)
   · exact U64.of_lt S0 (by omega))
  have HZS := Lh (show RetS (askS P Q G [x, k, h_] []) ((k + h_ * x % Q) % Q) Z 0 from .inl ⟨askS_ok HH.o (by simp; omega) (by simp), hZk.symm, rfl⟩)
  obtain ⟨mm, hmm⟩ : ∃ mm, h_ * x % Q = mm := ⟨_, rfl⟩
  have HMM := Lh hmm
  have HZM := Lh (show (k + mm) % Q = Z by rw [← hmm]; exact hZk)
  clear hmm y0_
  clear hy hd_ hRk hSk hh hZk hR hS hZ
  have F_g := Lh (show Boxed ((w.alloc (.cells #[.int .u64 P, .int .u64 Q, .int .u64 G] 24)).alloc (.cells #[.int .u64 0, .int .u64 0, .int .u64 0] 53)) (w.heap.size) P Q G from (Boxed.at _ P Q G _ (w.heap.size) (by simp)).alloc _)
  have F_r := Lh (show Arr .u64 ((w.alloc (.cells #[.int .u64 P, .int .u64 Q, .int .u64 G] 24)).alloc (.cells #[.int .u64 0, .int .u64 0, .int .u64 0] 53)) (w.heap.size + 1) [0, 0, 0] from Arr.new .u64 _ [0, 0, 0] _ (w.heap.size + 1) (by simp))
  have HBW := Lh (show Below w.heap.size w ((w.alloc (.cells #[.int .u64 P, .int .u64 Q, .int .u64 G] 24)).alloc (.cells #[.int .u64 0, .int .u64 0, .int .u64 0] 53)) from ((Below.refl _ _).alloc (by simp <;> omega) _).alloc (by simp <;> omega) _)
  go_enter Tryz.func43, Tryz.ntmps43
  obtain ⟨q1_0, q1_1, q1_2, q1_3, q1_4, q1_5⟩ := Arr.k3 F_r.o
  obtain ⟨x0a, x0b, x0c, -⟩ := id F_g.o
  go_wp2_with fail
  clear x0a x0b x0c q1_0 q1_1 q1_2 q1_3 q1_4 q1_5
  replace F_g := Lh F_g.o.drew
  replace F_r := Lh F_r.o.drew
  replace HBW := Lh HBW.o.drew
  have hS := F_g.o.s
  refine wp_region_stage 8 (fun w' => SBox w' w.heap.size P Q G) (by kernel_rfl) ?_
  refine tkL (i := 0) (some 15) (.load 24 (.tmp 5)) 24 [4, 8] (v := ?_) hS (fun w' hSw => ?_) ?_
  rotate_left
  · obtain ⟨s0, s1, s2⟩ := hSw
    unfold bareOp; go_simp; try with_reducible rfl
  simp only [Act.put, sZ]
  refine tkP (i := 1) (some 16) (.fieldAddr 24 (.tmp 5) 2) 0 (fun _ => hS) ?_
  simp only [Act.put, sZ]
  refine tkL (i := 2) (some 17) (.load 22 (.tmp 16)) 22 [4, 8] (v := ?_) hS (fun w' hSw => ?_) ?_
  rotate_left
  · obtain ⟨s0, s1, s2⟩ := hSw
    unfold bareOp; go_simp; try with_reducible rfl
  simp only [Act.put, sZ]
  refine tkP (i := 3) (some 18) (.move (.tmp 2)) 22 (fun _ => hS) ?_
  simp only [Act.put, sZ]
  refine tkL (i := 5) (some 20) (.load 24 (.tmp 5)) 24 [8] (v := ?_) hS (fun w' hSw => ?_) ?_
  rotate_left
  · obtain ⟨s0, s1, s2⟩ := hSw
    unfold bareOp; go_simp; try with_reducible rfl
  simp only [Act.put, sZ]
  refine tkP (i := 6) (some 21) (.move (.tmp 1)) 22 (fun _ => hS) ?_
  simp only [Act.put, sZ]
  refine tkP (i := 7) (some 22) (.move (.tmp 2)) 22 (fun _ => hS) ?_
  simp only [Act.put, sZ]
  refine onl (i := 4) (some 19) (.call { callee := .value (.func 42), args := #[.tmp 15, .tmp 17, .tmp 18], argTypes := #[24, 22, 22] }) 22 (fun K hK => ?_)
  unfold bareOp
  go_wp2_with (go_at_call 42; refine (r31Power_any _ hP1 PM hG hGM UX.o HY.o).mono ?_; rintro e w1 ⟨rfl, hb1⟩)
  replace F_g := Lh (F_g.o.keep hb1)
  replace F_r := Lh (F_r.o.keep hb1)
  replace HBW := Lh (HBW.o.trans (hb1.mono HBW.o.size))
  replace hS := F_g.o.s
  clear hb1
  refine hK.o _ _ (fun _ => hS) ?_
  clear hK K
  try simp only [Act.put, sZ]
  refine onl (i := 8) (some 23) (.call { callee := .value (.func 42), args := #[.tmp 20, .tmp 21, .tmp 22], argTypes := #[24, 22, 22] }) 22 (fun K hK => ?_)
  unfold bareOp
  go_wp2_with (go_at_call 42; refine (r31Power_any _ hP1 PM a0 aM UX.o HD_.o).mono ?_; rintro e w2 ⟨rfl, hb2⟩)
  replace F_g := Lh (F_g.o.keep hb2)
  replace F_r := Lh (F_r.o.keep hb2)
  replace HBW := Lh (HBW.o.trans (hb2.mono HBW.o.size))
  replace hS := F_g.o.s
  clear hb2
  refine hK.o _ _ lt8 ?_
  clear hK K
  try simp only [Act.put, sZ]
  refine tkP (i := 9) (some 11) (.assign (.tmp 19)) 22 lt8 ?_
  simp only [Act.put, sZ]
  refine tkP (i := 10) (some 12) (.assign (.tmp 23)) 22 lt8 ?_
  simp only [Act.put, sZ]
  refine wpAnyB_done (by kernel_rfl) ?_ _
  obtain ⟨q1_0, q1_1, q1_2, q1_3, q1_4, q1_5⟩ := Arr.k3 F_r.o
  obtain ⟨x0a, x0b, x0c, -⟩ := id F_g.o
  go_wp2_with fail
  clear x0a x0b x0c q1_0 q1_1 q1_2 q1_3 q1_4 q1_5
  go_cut [13] from 24 (fun c13 wx => ∃ Bp : Nat, c13 = .pointer (some ⟨Bp, 0, none⟩) ∧ Hid (EqIn w wx P Q G Bp R S 0))
  case first =>
   replace F_g := Lh F_g.o.drew
   replace F_r := Lh F_r.o.drew
   replace HBW := Lh HBW.o.drew
   refine wp_region_stage 8 (fun w' => SBox w' w.heap.size P Q G) (by kernel_rfl) ?_
   generalize w2.drew = wd2 at HBW F_g F_r ⊢
   have hS := F_g.o.s
   refine tkL (i := 0) (some 24) (.load 24 (.tmp 5)) 24 [4, 8] (v := ?_) hS (fun w' hSw => ?_) ?_
   rotate_left
   · obtain ⟨s0, s1, s2⟩ := hSw
     unfold bareOp; go_simp; try with_reducible rfl
   simp only [Act.put, sZ]
   refine tkP (i := 1) (some 25) (.fieldAddr 24 (.tmp 5) 2) 0 (fun _ => hS) ?_
   simp only [Act.put, sZ]
   refine tkL (i := 2) (some 26) (.load 22 (.tmp 25)) 22 [4, 8] (v := ?_) hS (fun w' hSw => ?_) ?_
   rotate_left
   · obtain ⟨s0, s1, s2⟩ := hSw
     unfold bareOp; go_simp; try with_reducible rfl
   simp only [Act.put, sZ]
   refine tkP (i := 3) (some 27) (.move (.tmp 3)) 22 (fun _ => hS) ?_
   simp only [Act.put, sZ]
   refine tkL (i := 5) (some 29) (.load 24 (.tmp 5)) 24 [8] (v := ?_) hS (fun w' hSw => ?_) ?_
   rotate_left
   · obtain ⟨s0, s1, s2⟩ := hSw
     unfold bareOp; go_simp; try with_reducible rfl
   simp only [Act.put, sZ]
   refine tkP (i := 6) (some 30) (.move (.tmp 1)) 22 (fun _ => hS) ?_
   simp only [Act.put, sZ]
   refine tkP (i := 7) (some 31) (.move (.tmp 3)) 22 (fun _ => hS) ?_
   simp only [Act.put, sZ]
   refine wpAnyB_two (i := 4) (j := 10) (some 28) (Op.call { callee := Callee.value (Operand.func 42), args := #[Operand.tmp 24, Operand.tmp 26, Operand.tmp 27], argTypes := #[24, 22, 22] }) 22 (some 13) (Op.alloc 53) 0 ⟨_, rfl, rfl, rfl, rfl, rfl⟩ ⟨_, rfl, rfl, rfl, rfl, rfl⟩ (by kernel_rfl) (fun K hK => ?_) (fun K hK => ?_)
   · skip
     unfold bareOp
     go_wp2_with (go_at_call 42; refine (r31Power_any _ hP1 PM hG hGM UK.o HRK.o).mono ?_; rintro e w21 ⟨rfl, hb21⟩)
     replace F_g := Lh (F_g.o.keep hb21)
     replace F_r := Lh (F_r.o.keep hb21)
     replace HBW := Lh (HBW.o.trans (hb21.mono HBW.o.size))
     replace hS := F_g.o.s
     clear hb21
     refine hK.o _ _ (fun _ => hS) ?_
     clear hK K
     try simp only [Act.put, sZ]
     refine wpAnyB_two (i := 8) (j := 10) (some 32) (Op.call { callee := Callee.value (Operand.func 42), args := #[Operand.tmp 29, Operand.tmp 30, Operand.tmp 31], argTypes := #[24, 22, 22] }) 22 (some 13) (Op.alloc 53) 0 ⟨_, rfl, rfl, rfl, rfl, rfl⟩ ⟨_, rfl, rfl, rfl, rfl, rfl⟩ (by kernel_rfl) (fun K hK => ?_) (fun K hK => ?_)
     · skip
       unfold bareOp
       go_wp2_with (go_at_call 42; refine (r31Power_any _ hP1 PM a0 aM UK.o HSK.o).mono ?_; rintro e w22 ⟨rfl, hb22⟩)
       replace F_g := Lh (F_g.o.keep hb22)
       replace F_r := Lh (F_r.o.keep hb22)
       replace HBW := Lh (HBW.o.trans (hb22.mono HBW.o.size))
       replace hS := F_g.o.s
       clear hb22
       refine hK.o _ _ lt8 ?_
       clear hK K
       try simp only [Act.put, sZ]
       refine tkP (i := 9) (some 33) (.build 53 #[(0, .tmp 28), (1, .tmp 32)]) 53 lt8 ?_
       simp only [Act.put, sZ]
       refine onl (i := 10) (some 13) (.alloc 53) 0 (fun K hK => ?_)
       unfold bareOp
       go_wp2_with fail
       have lt_g := F_g.o.lt
       replace F_g := Lh (F_g.o.alloc (.cells #[.int .u64 0, .int .u64 0, .int .u64 0] 53))
       have lt_r := F_r.o.lt
       replace F_r := Lh (F_r.o.alloc (.cells #[.int .u64 0, .int .u64 0, .int .u64 0] 53))
       have F_p := Lh (show Arr .u64 (w22.alloc (.cells #[.int .u64 0, .int .u64 0, .int .u64 0] 53)) w22.heap.size [0, 0, 0] from Arr.new .u64 w22 [0, 0, 0] _ _ rfl)
       have hle := HBW.o.size
       have hbl : w.heap.size + 2 ≤ w22.heap.size := lt_r
       replace HBW := Lh (HBW.o.alloc HBW.o.size (.cells #[.int .u64 0, .int .u64 0, .int .u64 0] 53))
       replace hS := F_g.o.s
       generalize w22.alloc (.cells #[.int .u64 0, .int .u64 0, .int .u64 0] 53) = w23 at F_p HBW hS F_g F_r ⊢
       refine hK.o _ _ lt8 ?_
       clear hK K
       try simp only [Act.put, sZ]
       refine onl (i := 11) none (.store 53 (.tmp 13) (.tmp 33)) 0 (fun K hK => ?_)
       unfold bareOp
       obtain ⟨z0, z1, z2, z3, z4, z5⟩ := Arr.k3 F_p.o
       go_wp2_with fail
       clear z0 z1 z2 z3 z4 z5
       have hbS := ((((Below.refl w22.heap.size w23).setCell (p := ⟨w22.heap.size, 0, none⟩) (Nat.le_refl _) (.int .u64 R)).setCell (p := ⟨w22.heap.size, 1, none⟩) (Nat.le_refl _) (.int .u64 S)).setCell (p := ⟨w22.heap.size, 2, none⟩) (Nat.le_refl _) (.int .u64 0))
       replace F_g := Lh (F_g.o.under hbS lt_g)
       clear lt_g
       replace F_r := Lh (F_r.o.under hbS lt_r)
       clear lt_r
       replace F_p := Lh (F_p.o.st3 R S 0)
       replace HBW := Lh (HBW.o.trans (hbS.mono hle))
       clear hbS hS
       refine hK.o _ _ lt8 ?_
       clear hK K
       try simp only [Act.put, sZ]
       refine wpAnyB_done (by kernel_rfl) ?_ _
       go_wp2_with fail
       go_meet
       case rel => exact ⟨_, rfl, ⟨F_g.o, F_r.o, F_p.o, hbl, HBW.o⟩⟩
     · skip
       unfold bareOp
       go_wp2_with fail
       have lt_g := F_g.o.lt
       replace F_g := Lh (F_g.o.alloc (.cells #[.int .u64 0, .int .u64 0, .int .u64 0] 53))
       have lt_r := F_r.o.lt
       replace F_r := Lh (F_r.o.alloc (.cells #[.int .u64 0, .int .u64 0, .int .u64 0] 53))
       have F_p := Lh (show Arr .u64 (w21.alloc (.cells #[.int .u64 0, .int .u64 0, .int .u64 0] 53)) w21.heap.size [0, 0, 0] from Arr.new .u64 w21 [0, 0, 0] _ _ rfl)
       have hle := HBW.o.size
       have hbl : w.heap.size + 2 ≤ w21.heap.size := lt_r
       replace HBW := Lh (HBW.o.alloc HBW.o.size (.cells #[.int .u64 0, .int .u64 0, .int .u64 0] 53))
       replace hS := F_g.o.s
       generalize w21.alloc (.cells #[.int .u64 0, .int .u64 0, .int .u64 0] 53) = w25 at F_p HBW hS F_g F_r ⊢
       refine hK.o _ _ (fun _ => hS) ?_
       clear hK K
       try simp only [Act.put, sZ]
       refine onl (i := 8) (some 32) (.call { callee := .value (.func 42), args := #[.tmp 29, .tmp 30, .tmp 31], argTypes := #[24, 22, 22] }) 22 (fun K hK => ?_)
       unfold bareOp
       go_wp2_with (go_at_call 42; refine (r31Power_any _ hP1 PM a0 aM UK.o HSK.o).mono ?_; rintro e w26 ⟨rfl, hb26⟩)
       replace F_g := Lh (F_g.o.keep hb26)
       replace F_r := Lh (F_r.o.keep hb26)
       replace F_p := Lh (F_p.o.keep hb26)
       replace HBW := Lh (HBW.o.trans (hb26.mono HBW.o.size))
       replace hS := F_g.o.s
       clear hb26
       refine hK.o _ _ lt8 ?_
       clear hK K
       try simp only [Act.put, sZ]
       refine tkP (i := 9) (some 33) (.build 53 #[(0, .tmp 28), (1, .tmp 32)]) 53 lt8 ?_
       simp only [Act.put, sZ]
       refine onl (i := 11) none (.store 53 (.tmp 13) (.tmp 33)) 0 (fun K hK => ?_)
       unfold bareOp
       obtain ⟨z0, z1, z2, z3, z4, z5⟩ := Arr.k3 F_p.o
       go_wp2_with fail
       clear z0 z1 z2 z3 z4 z5
       have hbS := ((((Below.refl w21.heap.size w26).setCell (p := ⟨w21.heap.size, 0, none⟩) (Nat.le_refl _) (.int .u64 R)).setCell (p := ⟨w21.heap.size, 1, none⟩) (Nat.le_refl _) (.int .u64 S)).setCell (p := ⟨w21.heap.size, 2, none⟩) (Nat.le_refl _) (.int .u64 0))
       replace F_g := Lh (F_g.o.under hbS lt_g)
       clear lt_g
       replace F_r := Lh (F_r.o.under hbS lt_r)
       clear lt_r
       replace F_p := Lh (F_p.o.st3 R S 0)
       replace HBW := Lh (HBW.o.trans (hbS.mono hle))
       clear hbS hS
       refine hK.o _ _ lt8 ?_
       clear hK K
       try simp only [Act.put, sZ]
       refine wpAnyB_done (by kernel_rfl) ?_ _
       go_wp2_with fail
       go_meet
       case rel => exact ⟨_, rfl, ⟨F_g.o, F_r.o, F_p.o, hbl, HBW.o⟩⟩
   · skip
     unfold bareOp
     go_wp2_with fail
     have lt_g := F_g.o.lt
     replace F_g := Lh (F_g.o.alloc (.cells #[.int .u64 0, .int .u64 0, .int .u64 0] 53))
     have lt_r := F_r.o.lt
     replace F_r := Lh (F_r.o.alloc (.cells #[.int .u64 0, .int .u64 0, .int .u64 0] 53))
     have F_p := Lh (show Arr .u64 (wd2.alloc (.cells #[.int .u64 0, .int .u64 0, .int .u64 0] 53)) wd2.heap.size [0, 0, 0] from Arr.new .u64 wd2 [0, 0, 0] _ _ rfl)
     have hle := HBW.o.size
     have hbl : w.heap.size + 2 ≤ wd2.heap.size := lt_r
     replace HBW := Lh (HBW.o.alloc HBW.o.size (.cells #[.int .u64 0, .int .u64 0, .int .u64 0] 53))
     replace hS := F_g.o.s
     generalize wd2.alloc (.cells #[.int .u64 0, .int .u64 0, .int .u64 0] 53) = w28 at F_p HBW hS F_g F_r ⊢
     refine hK.o _ _ (fun _ => hS) ?_
     clear hK K
     try simp only [Act.put, sZ]
     refine onl (i := 4) (some 28) (.call { callee := .value (.func 42), args := #[.tmp 24, .tmp 26, .tmp 27], argTypes := #[24, 22, 22] }) 22 (fun K hK => ?_)
     unfold bareOp
     go_wp2_with (go_at_call 42; refine (r31Power_any _ hP1 PM hG hGM UK.o HRK.o).mono ?_; rintro e w29 ⟨rfl, hb29⟩)
     replace F_g := Lh (F_g.o.keep hb29)
     replace F_r := Lh (F_r.o.keep hb29)
     replace F_p := Lh (F_p.o.keep hb29)
     replace HBW := Lh (HBW.o.trans (hb29.mono HBW.o.size))
     replace hS := F_g.o.s
     clear hb29
     refine hK.o _ _ (fun _ => hS) ?_
     clear hK K
     try simp only [Act.put, sZ]
     refine onl (i := 8) (some 32) (.call { callee := .value (.func 42), args := #[.tmp 29, .tmp 30, .tmp 31], argTypes := #[24, 22, 22] }) 22 (fun K hK => ?_)
     unfold bareOp
     go_wp2_with (go_at_call 42; refine (r31Power_any _ hP1 PM a0 aM UK.o HSK.o).mono ?_; rintro e w30 ⟨rfl, hb30⟩)
     replace F_g := Lh (F_g.o.keep hb30)
     replace F_r := Lh (F_r.o.keep hb30)
     replace F_p := Lh (F_p.o.keep hb30)
     replace HBW := Lh (HBW.o.trans (hb30.mono HBW.o.size))
     replace hS := F_g.o.s
     clear hb30
     refine hK.o _ _ lt8 ?_
     clear hK K
     try simp only [Act.put, sZ]
     refine tkP (i := 9) (some 33) (.build 53 #[(0, .tmp 28), (1, .tmp 32)]) 53 lt8 ?_
     simp only [Act.put, sZ]
     refine onl (i := 11) none (.store 53 (.tmp 13) (.tmp 33)) 0 (fun K hK => ?_)
     unfold bareOp
     obtain ⟨z0, z1, z2, z3, z4, z5⟩ := Arr.k3 F_p.o
     go_wp2_with fail
     clear z0 z1 z2 z3 z4 z5
     have hbS := ((((Below.refl wd2.heap.size w30).setCell (p := ⟨wd2.heap.size, 0, none⟩) (Nat.le_refl _) (.int .u64 R)).setCell (p := ⟨wd2.heap.size, 1, none⟩) (Nat.le_refl _) (.int .u64 S)).setCell (p := ⟨wd2.heap.size, 2, none⟩) (Nat.le_refl _) (.int .u64 0))
     replace F_g := Lh (F_g.o.under hbS lt_g)
     clear lt_g
     replace F_r := Lh (F_r.o.under hbS lt_r)
     clear lt_r
     replace F_p := Lh (F_p.o.st3 R S 0)
     replace HBW := Lh (HBW.o.trans (hbS.mono hle))
     clear hbS hS
     refine hK.o _ _ lt8 ?_
     clear hK K
     try simp only [Act.put, sZ]
     refine wpAnyB_done (by kernel_rfl) ?_ _
     go_wp2_with fail
     go_meet
     case rel => exact ⟨_, rfl, ⟨F_g.o, F_r.o, F_p.o, hbl, HBW.o⟩⟩
  case rest =>
   clear F_g F_r HBW
   obtain ⟨Bp, rfl, HE⟩ := hcut
   have F_g := Lh HE.o.g
   have F_r := Lh HE.o.r
   have F_p := Lh HE.o.p
   have HBW := Lh HE.o.bel
   have hne := HE.o.ne
   clear HE
   obtain ⟨q1_0, q1_1, q1_2, q1_3, q1_4, q1_5⟩ := Arr.k3 F_r.o
   obtain ⟨q2_0, q2_1, q2_2, q2_3, q2_4, q2_5⟩ := Arr.k3 F_p.o
   obtain ⟨x0a, x0b, x0c, -⟩ := id F_g.o
   go_wp2_with fail
   clear x0a x0b x0c q1_0 q1_1 q1_2 q1_3 q1_4 q1_5 q2_0 q2_1 q2_2 q2_3 q2_4 q2_5
   replace F_g := Lh (F_g.o.alloc (.cells #[.int .u64 y, .int .u64 a, .int .u64 d, .int .u64 R, .int .u64 S] 22))
   replace F_r := Lh (F_r.o.alloc (.cells #[.int .u64 y, .int .u64 a, .int .u64 d, .int .u64 R, .int .u64 S] 22))
   replace F_p := Lh (F_p.o.alloc (.cells #[.int .u64 y, .int .u64 a, .int .u64 d, .int .u64 R, .int .u64 S] 22))
   have F_ms := Lh (ShL.laid wc [y, a, d, R, S] _ 22 _ 5 5 rfl rfl rfl)
   replace HBW := Lh (HBW.o.alloc HBW.o.size (.cells #[.int .u64 y, .int .u64 a, .int .u64 d, .int .u64 R, .int .u64 S] 22))
   refine (rOf31_any _ (HT.o.keep HBW.o) HH.o F_ms.o HUS.o (by simp) (by simp) (by omega) HCC.o).mono ?_
   rintro e w41 ⟨rfl, hb41⟩
   replace F_g := Lh (F_g.o.keep hb41)
   replace F_r := Lh (F_r.o.keep hb41)
   replace F_p := Lh (F_p.o.keep hb41)
   replace F_ms := Lh (F_ms.o.keep hb41)
   replace HBW := Lh (HBW.o.trans (hb41.mono HBW.o.size))
   clear hb41
   clear F_ms
   obtain ⟨q1_0, q1_1, q1_2, q1_3, q1_4, q1_5⟩ := Arr.k3 F_r.o
   obtain ⟨q2_0, q2_1, q2_2, q2_3, q2_4, q2_5⟩ := Arr.k3 F_p.o
   obtain ⟨x0a, x0b, x0c, -⟩ := id F_g.o
   go_wp2_with fail
   clear x0a x0b x0c q1_0 q1_1 q1_2 q1_3 q1_4 q1_5 q2_0 q2_1 q2_2 q2_3 q2_4 q2_5
   refine (rtold_any _ HH.o x0 xQ k0 kQ h0 hQQ HMM.o HZM.o).mono ?_
   rintro e w42 ⟨rfl, hb42⟩
   replace F_g := Lh (F_g.o.keep hb42)
   replace F_r := Lh (F_r.o.keep hb42)
   replace F_p := Lh (F_p.o.keep hb42)
   replace HBW := Lh (HBW.o.trans (hb42.mono HBW.o.size))
   clear hb42
   obtain ⟨q1_0, q1_1, q1_2, q1_3, q1_4, q1_5⟩ := Arr.k3 F_r.o
   obtain ⟨q2_0, q2_1, q2_2, q2_3, q2_4, q2_5⟩ := Arr.k3 F_p.o
   obtain ⟨x0a, x0b, x0c, -⟩ := id F_g.o
   go_wp2_with fail
   clear x0a x0b x0c q1_0 q1_1 q1_2 q1_3 q1_4 q1_5 q2_0 q2_1 q2_2 q2_3 q2_4 q2_5
   have hr2 : w.heap.size + 1 ≠ Bp := by omega
   exact bodyPost_ret (res_eq1 rfl ((F_r.o.far (Ne.symm hr2) (.int .u64 Z)).st3 R S Z) _ rfl) rfl ⟨rfl, (((HBW.o.setCell (show w.heap.size ≤ Bp by omega) _).setCell (by simp <;> omega) _).setCell (by simp <;> omega) _).setCell (by simp <;> omega) _⟩
set_option maxHeartbeats 4000000 in
theorem rEqualIs_any {P Q G y a d R S Z c : Int} {v : Bool} (w : World) (hH : Has P Q G) (y0 : 0 ≤ y) (yP : y < P) (a0 : 0 ≤ a) (aP : a < P) (d0 : 0 ≤ d) (dP : d < P) (R0 : 0 ≤ R) (RP : R < P) (S0 : 0 ≤ S) (SP : S < P) (uz : U64 Z) (uc : U64 c) (hv : v = true ↔ powm G Z P = R * powm y c P % P ∧ powm a Z P = S * powm d c P % P) :
    Calls Tryz.prog 84 #[.agg #[.int .u64 P, .int .u64 Q, .int .u64 G], .int .u64 y, .int .u64 a, .int .u64 d, .agg #[.int .u64 R, .int .u64 S, .int .u64 Z], .int .u64 c] w fun e w' => e = .returned (.bool v) ∧ Below w.heap.size w w' := by
  have HV := Lh hv
  have UZ := Lh uz
  have UC := Lh uc
  clear hv uz uc
  obtain ⟨p5, p3, hQ', pq, g2, gP⟩ := id hH
  have hP1 : 1 ≤ P := by omega
  have hGM : G < 2147483648 := by omega
  have q3 : Q < 1073741824 := by omega
  have q2 : 2 ≤ Q := by omega
  have HH := Lh hH
  clear hH pq
  have hG : 0 ≤ G := by omega
  have PM : P < 2147483648 := by omega
  by_cases hE : powm G Z P = R * powm y c P % P
  case neg =>
   have HE := Lh hE
   have HZ := Lh (show false = v by rw [Bool.eq_iff_iff, HV.o]; exact ⟨fun h => (by cases h), fun h => absurd h.1 HE.o⟩)
   clear hE
   have F_g := Lh (show Boxed ((w.alloc (.cells #[.int .u64 P, .int .u64 Q, .int .u64 G] 24)).alloc (.cells #[.int .u64 R, .int .u64 S, .int .u64 Z] 53)) (w.heap.size) P Q G from (Boxed.at _ P Q G _ (w.heap.size) (by simp)).alloc _)
   have F_p := Lh (show Arr .u64 ((w.alloc (.cells #[.int .u64 P, .int .u64 Q, .int .u64 G] 24)).alloc (.cells #[.int .u64 R, .int .u64 S, .int .u64 Z] 53)) (w.heap.size + 1) [R, S, Z] from Arr.new .u64 _ [R, S, Z] _ (w.heap.size + 1) (by simp))
   have HBW := Lh (show Below w.heap.size w ((w.alloc (.cells #[.int .u64 P, .int .u64 Q, .int .u64 G] 24)).alloc (.cells #[.int .u64 R, .int .u64 S, .int .u64 Z] 53)) from ((Below.refl _ _).alloc (by simp <;> omega) _).alloc (by simp <;> omega) _)
   go_enter Tryz.func84, Tryz.ntmps84
   obtain ⟨q1_0, q1_1, q1_2, q1_3, q1_4, q1_5⟩ := Arr.k3 F_p.o
   obtain ⟨x0a, x0b, x0c, -⟩ := id F_g.o
   go_wp2_with fail
   clear x0a x0b x0c q1_0 q1_1 q1_2 q1_3 q1_4 q1_5
   refine (reven_any (v := false) _ hP1 PM hG gP y0 yP R0 RP UC.o UZ.o ⟨fun h => (by cases h), fun h => absurd h HE.o⟩).mono ?_
   rintro e w1 ⟨rfl, hb1⟩
   replace F_g := Lh (F_g.o.keep hb1)
   replace F_p := Lh (F_p.o.keep hb1)
   replace HBW := Lh (HBW.o.trans (hb1.mono HBW.o.size))
   clear hb1
   obtain ⟨q1_0, q1_1, q1_2, q1_3, q1_4, q1_5⟩ := Arr.k3 F_p.o
   obtain ⟨x0a, x0b, x0c, -⟩ := id F_g.o
   go_wp2_with fail
   go_ret
   exact ⟨ret_bool HZ.o, HBW.o⟩
  case pos =>
   have HE := Lh hE
   have HZ := Lh (show v = true ↔ powm a Z P = S * powm d c P % P from HV.o.trans ⟨fun h => h.2, fun h => ⟨HE.o, h⟩⟩)
   clear hE
   have F_g := Lh (show Boxed ((w.alloc (.cells #[.int .u64 P, .int .u64 Q, .int .u64 G] 24)).alloc (.cells #[.int .u64 R, .int .u64 S, .int .u64 Z] 53)) (w.heap.size) P Q G from (Boxed.at _ P Q G _ (w.heap.size) (by simp)).alloc _)
   have F_p := Lh (show Arr .u64 ((w.alloc (.cells #[.int .u64 P, .int .u64 Q, .int .u64 G] 24)).alloc (.cells #[.int .u64 R, .int .u64 S, .int .u64 Z] 53)) (w.heap.size + 1) [R, S, Z] from Arr.new .u64 _ [R, S, Z] _ (w.heap.size + 1) (by simp))
   have HBW := Lh (show Below w.heap.size w ((w.alloc (.cells #[.int .u64 P, .int .u64 Q, .int .u64 G] 24)).alloc (.cells #[.int .u64 R, .int .u64 S, .int .u64 Z] 53)) from ((Below.refl _ _).alloc (by simp <;> omega) _).alloc (by simp <;> omega) _)
   go_enter Tryz.func84, Tryz.ntmps84
   obtain ⟨q1_0, q1_1, q1_2, q1_3, q1_4, q1_5⟩ := Arr.k3 F_p.o
   obtain ⟨x0a, x0b, x0c, -⟩ := id F_g.o
   go_wp2_with fail
   clear x0a x0b x0c q1_0 q1_1 q1_2 q1_3 q1_4 q1_5
   refine (reven_any (v := true) _ hP1 PM hG gP y0 yP R0 RP UC.o UZ.o ⟨fun _ => HE.o, fun _ => rfl⟩).mono ?_
   rintro e w1 ⟨rfl, hb1⟩
   replace F_g := Lh (F_g.o.keep hb1)
   replace F_p := Lh (F_p.o.keep hb1)
   replace HBW := Lh (HBW.o.trans (hb1.mono HBW.o.size))
   clear hb1
   obtain ⟨q1_0, q1_1, q1_2, q1_3, q1_4, q1_5⟩ := Arr.k3 F_p.o
   obtain ⟨x0a, x0b, x0c, -⟩ := id F_g.o
   go_wp2_with fail
   clear x0a x0b x0c q1_0 q1_1 q1_2 q1_3 q1_4 q1_5
   refine (reven_any (v := v) _ hP1 PM a0 aP d0 dP S0 SP UC.o UZ.o HZ.o).mono ?_
   rintro e w2 ⟨rfl, hb2⟩
   replace F_g := Lh (F_g.o.keep hb2)
   replace F_p := Lh (F_p.o.keep hb2)
   replace HBW := Lh (HBW.o.trans (hb2.mono HBW.o.size))
   clear hb2
   obtain ⟨q1_0, q1_1, q1_2, q1_3, q1_4, q1_5⟩ := Arr.k3 F_p.o
   obtain ⟨x0a, x0b, x0c, -⟩ := id F_g.o
   go_wp2_with fail
   go_ret
   exact ⟨rfl, HBW.o⟩
set_option maxHeartbeats 4000000 in
theorem rEqualGood_any {P Q G y a d R S Z : Int} {v : Bool} {tx : Option Addr} {n cp : Nat} {T : List Int} (w : World) (hT : Txt w tx n T) (hH : Has P Q G) (y0 : 0 ≤ y) (yP : y < P) (a0 : 0 ≤ a) (aP : a < P) (d0 : 0 ≤ d) (dP : d < P) (R0 : 0 ≤ R) (RP : R < P) (S0 : 0 ≤ S) (SP : S < P) (Z0 : 0 ≤ Z) (ZQ : Z < Q) (hn8 : n ≤ 8000) (hv : v = true ↔ evP P Q G y a d R S Z T) :
    Calls Tryz.prog 68 #[.agg #[.int .u64 P, .int .u64 Q, .int .u64 G], .int .u64 y, .int .u64 a, .int .u64 d, .agg #[.int .u64 R, .int .u64 S, .int .u64 Z], .slice tx n cp] w fun e w' => e = .returned (.bool v) ∧ Below w.heap.size w w' := by
  have HT := Lh hT
  have HV := Lh hv
  clear hT hv
  obtain ⟨p5, p3, hQ', pq, g2, gP⟩ := id hH
  have hP1 : 1 ≤ P := by omega
  have hGM : G < 2147483648 := by omega
  have q3 : Q < 1073741824 := by omega
  have q2 : 2 ≤ Q := by omega
  have HH := Lh hH
  clear hH pq
  have HRG := Lh (show ∀ z, z ∈ [y, a, d, R, S] → 0 ≤ z ∧ z < P from fun z hz => by
   simp at hz
   rcases hz with rfl | rfl | rfl | rfl | rfl <;> exact ⟨by assumption, by assumption⟩)
  have HUS := Lh (show ∀ z, z ∈ [y, a, d, R, S] → U64 z from fun z hz => U64.of_lt (HRG.o z hz).1 (by have := (HRG.o z hz).2; omega))
  obtain ⟨h_, hh⟩ : ∃ h_, chV Q [y, a, d, R, S] T = h_ := ⟨_, rfl⟩
  obtain ⟨h0, hQQ⟩ : 0 ≤ h_ ∧ h_ < Q := by rw [← hh]; exact chV_range (by omega) _ _
  have HCC := Lh hh
  have UH := Lh (U64.of_lt h0 (by omega))
  have UZ := Lh (U64.of_lt Z0 (by omega))
  clear hh
  by_cases hM : memsP P Q [y, a, d, R, S]
  case neg =>
   have HM := Lh hM
   have HZ := Lh (show false = v by rw [Bool.eq_iff_iff, HV.o]; exact ⟨fun h => (by cases h), fun h => absurd h.1 HM.o⟩)
   clear hM
   have F_g := Lh (show Boxed (((w.alloc (.cells #[.int .u64 P, .int .u64 Q, .int .u64 G] 24)).alloc (.cells #[.int .u64 R, .int .u64 S, .int .u64 Z] 53)).alloc (.cells #[.int .u64 y, .int .u64 a, .int .u64 d, .int .u64 R, .int .u64 S] 22)) (w.heap.size) P Q G from ((Boxed.at _ P Q G _ (w.heap.size) (by simp)).alloc _).alloc _)
   have F_ls := Lh (show ShL (((w.alloc (.cells #[.int .u64 P, .int .u64 Q, .int .u64 G] 24)).alloc (.cells #[.int .u64 R, .int .u64 S, .int .u64 Z] 53)).alloc (.cells #[.int .u64 y, .int .u64 a, .int .u64 d, .int .u64 R, .int .u64 S] 22)) (some ⟨w.heap.size + 1 + 1, 0, none⟩) 5 5 [y, a, d, R, S] from ShL.laid _ [y, a, d, R, S] _ _ (w.heap.size + 1 + 1) _ _ (by simp) rfl rfl)
   have F_p := Lh (show Arr .u64 (((w.alloc (.cells #[.int .u64 P, .int .u64 Q, .int .u64 G] 24)).alloc (.cells #[.int .u64 R, .int .u64 S, .int .u64 Z] 53)).alloc (.cells #[.int .u64 y, .int .u64 a, .int .u64 d, .int .u64 R, .int .u64 S] 22)) (w.heap.size + 1) [R, S, Z] from (Arr.new .u64 _ [R, S, Z] _ (w.heap.size + 1) (by simp)).alloc _)
   have HBW := Lh (show Below w.heap.size w (((w.alloc (.cells #[.int .u64 P, .int .u64 Q, .int .u64 G] 24)).alloc (.cells #[.int .u64 R, .int .u64 S, .int .u64 Z] 53)).alloc (.cells #[.int .u64 y, .int .u64 a, .int .u64 d, .int .u64 R, .int .u64 S] 22)) from (((Below.refl _ _).alloc (by simp <;> omega) _).alloc (by simp <;> omega) _).alloc (by simp <;> omega) _)
   go_enter Tryz.func68, Tryz.ntmps68
   obtain ⟨q1_0, q1_1, q1_2, q1_3, q1_4, q1_5⟩ := Arr.k3 F_p.o
   obtain ⟨x0a, x0b, x0c, -⟩ := id F_g.o
   go_wp2_with fail
   clear x0a x0b x0c q1_0 q1_1 q1_2 q1_3 q1_4 q1_5
   replace F_g := Lh F_g.o.drew
   replace F_p := Lh F_p.o.drew
   replace F_ls := Lh F_ls.o.drew
   replace HBW := Lh HBW.o.drew
   have hS := And.intro F_g.o.s F_p.o.s3
   refine wp_region_stage 2 (fun w' => SBox w' w.heap.size P Q G ∧ S3 w' (w.heap.size + 1) R S Z) (by kernel_rfl) ?_
   refine tkL (i := 0) (some 22) (.load 24 (.tmp 6)) 24 [2] (v := ?_) hS (fun w' hSw => ?_) ?_
   rotate_left
   · obtain ⟨⟨s0, s1, s2⟩, ⟨s3, s4, s5⟩⟩ := hSw
     unfold bareOp; go_simp; try with_reducible rfl
   simp only [Act.put, sZ]
   refine tkP (i := 1) (some 23) (.move (.tmp 13)) 26 (fun _ => hS) ?_
   simp only [Act.put, sZ]
   refine onl (i := 2) (some 24) (.call { callee := .value (.func 83), args := #[.tmp 22, .tmp 23], argTypes := #[24, 26] }) 4 (fun K hK => ?_)
   unfold bareOp
   go_wp2_with (go_at_call 83; refine (rmembers_any (v := false) _ HH.o F_ls.o HRG.o (by simp) ⟨fun h => (by cases h), fun h => absurd h HM.o⟩).mono ?_; rintro e w1 ⟨rfl, hb1⟩)
   replace F_g := Lh (F_g.o.keep hb1)
   replace F_p := Lh (F_p.o.keep hb1)
   replace F_ls := Lh (F_ls.o.keep hb1)
   replace HBW := Lh (HBW.o.trans (hb1.mono HBW.o.size))
   replace hS := And.intro F_g.o.s F_p.o.s3
   clear hb1
   refine hK.o _ _ lt8 ?_
   clear hK K
   try simp only [Act.put, sZ]
   refine tkP (i := 3) (some 25) (.move (.tmp 24)) 4 lt8 ?_
   simp only [Act.put, sZ]
   refine skG (i := 4) (some 26) (.load 24 (.tmp 6)) 24 (some (3, true)) lt8 ?_
   simp only [Act.put, sZ]
   refine skG (i := 5) (some 27) (.move (.tmp 1)) 22 (some (3, true)) lt8 ?_
   simp only [Act.put, sZ]
   refine skG (i := 6) (some 28) (.move (.tmp 2)) 22 (some (3, true)) lt8 ?_
   simp only [Act.put, sZ]
   refine skG (i := 7) (some 29) (.move (.tmp 3)) 22 (some (3, true)) lt8 ?_
   simp only [Act.put, sZ]
   refine skG (i := 8) (some 30) (.load 53 (.tmp 10)) 53 (some (3, true)) lt8 ?_
   simp only [Act.put, sZ]
   refine skG (i := 9) (some 31) (.load 24 (.tmp 6)) 24 (some (3, true)) lt8 ?_
   simp only [Act.put, sZ]
   refine skG (i := 10) (some 32) (.move (.tmp 13)) 26 (some (3, true)) lt8 ?_
   simp only [Act.put, sZ]
   refine skG (i := 11) (some 33) (.move (.tmp 5)) 56 (some (3, true)) lt8 ?_
   simp only [Act.put, sZ]
   refine skG (i := 12) (some 34) (.call { callee := .value (.func 60), args := #[.tmp 31, .tmp 32, .tmp 33], argTypes := #[24, 26, 56] }) 22 (some (3, true)) lt8 ?_
   simp only [Act.put, sZ]
   refine skG (i := 13) (some 35) (.call { callee := .value (.func 84), args := #[.tmp 26, .tmp 27, .tmp 28, .tmp 29, .tmp 30, .tmp 34], argTypes := #[24, 22, 22, 22, 53, 22] }) 4 (some (3, true)) lt8 ?_
   simp only [Act.put, sZ]
   refine tkP (i := 14) (some 36) (.pick (.tmp 25) (.tmp 35) (.const (.bool false))) 4 lt8 ?_
   simp only [Act.put, sZ]
   refine tkP (i := 15) (some 12) (.assign (.tmp 36)) 4 lt8 ?_
   simp only [Act.put, sZ]
   refine wpAnyB_done (by kernel_rfl) ?_ _
   go_wp2_with fail
   go_ret
   exact ⟨ret_bool HZ.o, HBW.o⟩
  case pos =>
   have HM := Lh hM
   have HZ := Lh (show v = true ↔ powm G Z P = R * powm y h_ P % P ∧ powm a Z P = S * powm d h_ P % P from HV.o.trans ⟨fun h => by rw [← HCC.o]; exact h.2, fun h => ⟨HM.o, by rw [HCC.o]; exact h⟩⟩)
   clear hM
   have F_g := Lh (show Boxed (((w.alloc (.cells #[.int .u64 P, .int .u64 Q, .int .u64 G] 24)).alloc (.cells #[.int .u64 R, .int .u64 S, .int .u64 Z] 53)).alloc (.cells #[.int .u64 y, .int .u64 a, .int .u64 d, .int .u64 R, .int .u64 S] 22)) (w.heap.size) P Q G from ((Boxed.at _ P Q G _ (w.heap.size) (by simp)).alloc _).alloc _)
   have F_ls := Lh (show ShL (((w.alloc (.cells #[.int .u64 P, .int .u64 Q, .int .u64 G] 24)).alloc (.cells #[.int .u64 R, .int .u64 S, .int .u64 Z] 53)).alloc (.cells #[.int .u64 y, .int .u64 a, .int .u64 d, .int .u64 R, .int .u64 S] 22)) (some ⟨w.heap.size + 1 + 1, 0, none⟩) 5 5 [y, a, d, R, S] from ShL.laid _ [y, a, d, R, S] _ _ (w.heap.size + 1 + 1) _ _ (by simp) rfl rfl)
   have F_p := Lh (show Arr .u64 (((w.alloc (.cells #[.int .u64 P, .int .u64 Q, .int .u64 G] 24)).alloc (.cells #[.int .u64 R, .int .u64 S, .int .u64 Z] 53)).alloc (.cells #[.int .u64 y, .int .u64 a, .int .u64 d, .int .u64 R, .int .u64 S] 22)) (w.heap.size + 1) [R, S, Z] from (Arr.new .u64 _ [R, S, Z] _ (w.heap.size + 1) (by simp)).alloc _)
   have HBW := Lh (show Below w.heap.size w (((w.alloc (.cells #[.int .u64 P, .int .u64 Q, .int .u64 G] 24)).alloc (.cells #[.int .u64 R, .int .u64 S, .int .u64 Z] 53)).alloc (.cells #[.int .u64 y, .int .u64 a, .int .u64 d, .int .u64 R, .int .u64 S] 22)) from (((Below.refl _ _).alloc (by simp <;> omega) _).alloc (by simp <;> omega) _).alloc (by simp <;> omega) _)
   go_enter Tryz.func68, Tryz.ntmps68
   obtain ⟨q1_0, q1_1, q1_2, q1_3, q1_4, q1_5⟩ := Arr.k3 F_p.o
   obtain ⟨x0a, x0b, x0c, -⟩ := id F_g.o
   go_wp2_with fail
   clear x0a x0b x0c q1_0 q1_1 q1_2 q1_3 q1_4 q1_5
   replace F_g := Lh F_g.o.drew
   replace F_p := Lh F_p.o.drew
   replace F_ls := Lh F_ls.o.drew
   replace HBW := Lh HBW.o.drew
   have hS := And.intro F_g.o.s F_p.o.s3
   refine wp_region_stage 13 (fun w' => SBox w' w.heap.size P Q G ∧ S3 w' (w.heap.size + 1) R S Z) (by kernel_rfl) ?_
   refine tkL (i := 0) (some 22) (.load 24 (.tmp 6)) 24 [2, 3, 4, 5, 6, 7, 8, 9, 10, 11, 12, 13] (v := ?_) hS (fun w' hSw => ?_) ?_
   rotate_left
   · obtain ⟨⟨s0, s1, s2⟩, ⟨s3, s4, s5⟩⟩ := hSw
     unfold bareOp; go_simp; try with_reducible rfl
   simp only [Act.put, sZ]
   refine tkP (i := 1) (some 23) (.move (.tmp 13)) 26 (fun _ => hS) ?_
   simp only [Act.put, sZ]
   refine onl (i := 2) (some 24) (.call { callee := .value (.func 83), args := #[.tmp 22, .tmp 23], argTypes := #[24, 26] }) 4 (fun K hK => ?_)
   unfold bareOp
   go_wp2_with (go_at_call 83; refine (rmembers_any (v := true) _ HH.o F_ls.o HRG.o (by simp) ⟨fun _ => HM.o, fun _ => rfl⟩).mono ?_; rintro e w1 ⟨rfl, hb1⟩)
   replace F_g := Lh (F_g.o.keep hb1)
   replace F_p := Lh (F_p.o.keep hb1)
   replace F_ls := Lh (F_ls.o.keep hb1)
   replace HBW := Lh (HBW.o.trans (hb1.mono HBW.o.size))
   replace hS := And.intro F_g.o.s F_p.o.s3
   clear hb1
   refine hK.o _ _ (fun _ => hS) ?_
   clear hK K
   try simp only [Act.put, sZ]
   refine tkP (i := 3) (some 25) (.move (.tmp 24)) 4 (fun _ => hS) ?_
   simp only [Act.put, sZ]
   refine tkLG (i := 4) (some 26) (.load 24 (.tmp 6)) 24 (some (3, true)) [13] (v := ?_) hS (fun w' hSw => ?_) ?_
   rotate_left
   · obtain ⟨⟨s0, s1, s2⟩, ⟨s3, s4, s5⟩⟩ := hSw
     unfold bareOp; go_simp; try with_reducible rfl
   simp only [Act.put, sZ]
   refine tkPG (i := 5) (some 27) (.move (.tmp 1)) 22 (some (3, true)) (fun _ => hS) ?_
   simp only [Act.put, sZ]
   refine tkPG (i := 6) (some 28) (.move (.tmp 2)) 22 (some (3, true)) (fun _ => hS) ?_
   simp only [Act.put, sZ]
   refine tkPG (i := 7) (some 29) (.move (.tmp 3)) 22 (some (3, true)) (fun _ => hS) ?_
   simp only [Act.put, sZ]
   refine tkLG (i := 8) (some 30) (.load 53 (.tmp 10)) 53 (some (3, true)) [13] (v := ?_) hS (fun w' hSw => ?_) ?_
   rotate_left
   · obtain ⟨⟨s0, s1, s2⟩, ⟨s3, s4, s5⟩⟩ := hSw
     unfold bareOp; go_simp; try with_reducible rfl
   simp only [Act.put, sZ]
   refine tkLG (i := 9) (some 31) (.load 24 (.tmp 6)) 24 (some (3, true)) [12, 13] (v := ?_) hS (fun w' hSw => ?_) ?_
   rotate_left
   · obtain ⟨⟨s0, s1, s2⟩, ⟨s3, s4, s5⟩⟩ := hSw
     unfold bareOp; go_simp; try with_reducible rfl
   simp only [Act.put, sZ]
   refine tkPG (i := 10) (some 32) (.move (.tmp 13)) 26 (some (3, true)) (fun _ => hS) ?_
   simp only [Act.put, sZ]
   refine tkPG (i := 11) (some 33) (.move (.tmp 5)) 56 (some (3, true)) (fun _ => hS) ?_
   simp only [Act.put, sZ]
   refine wpAnyB_onlyG (i := 12) (some 34) (.call { callee := .value (.func 60), args := #[.tmp 31, .tmp 32, .tmp 33], argTypes := #[24, 26, 56] }) 22 (some (3, true)) ⟨_, rfl, rfl, rfl, rfl, rfl⟩ (by kernel_rfl) rfl (fun K hK => ?_)
   unfold bareOp
   go_wp2_with (go_at_call 60; refine (rOf31_any _ (HT.o.keep HBW.o) HH.o F_ls.o HUS.o (by simp) (by simp) (by omega) HCC.o).mono ?_; rintro e w2 ⟨rfl, hb2⟩)
   replace F_g := Lh (F_g.o.keep hb2)
   replace F_p := Lh (F_p.o.keep hb2)
   replace F_ls := Lh (F_ls.o.keep hb2)
   replace HBW := Lh (HBW.o.trans (hb2.mono HBW.o.size))
   replace hS := And.intro F_g.o.s F_p.o.s3
   clear hb2
   refine hK.o _ _ (fun _ => hS) ?_
   clear hK K
   try simp only [Act.put, sZ]
   refine wpAnyB_onlyG (i := 13) (some 35) (.call { callee := .value (.func 84), args := #[.tmp 26, .tmp 27, .tmp 28, .tmp 29, .tmp 30, .tmp 34], argTypes := #[24, 22, 22, 22, 53, 22] }) 4 (some (3, true)) ⟨_, rfl, rfl, rfl, rfl, rfl⟩ (by kernel_rfl) rfl (fun K hK => ?_)
   unfold bareOp
   go_wp2_with (go_at_call 84; refine (rEqualIs_any (v := v) _ HH.o y0 yP a0 aP d0 dP R0 RP S0 SP UZ.o UH.o HZ.o).mono ?_; rintro e w3 ⟨rfl, hb3⟩)
   replace F_g := Lh (F_g.o.keep hb3)
   replace F_p := Lh (F_p.o.keep hb3)
   replace F_ls := Lh (F_ls.o.keep hb3)
   replace HBW := Lh (HBW.o.trans (hb3.mono HBW.o.size))
   replace hS := And.intro F_g.o.s F_p.o.s3
   clear hb3
   refine hK.o _ _ lt8 ?_
   clear hK K
   try simp only [Act.put, sZ]
   refine tkP (i := 14) (some 36) (.pick (.tmp 25) (.tmp 35) (.const (.bool false))) 4 lt8 ?_
   simp only [Act.put, sZ]
   refine tkP (i := 15) (some 12) (.assign (.tmp 36)) 4 lt8 ?_
   simp only [Act.put, sZ]
   refine wpAnyB_done (by kernel_rfl) ?_ _
   go_wp2_with fail
   go_ret
   exact ⟨rfl, HBW.o⟩
set_option maxHeartbeats 4000000 in
theorem reqVerify_any {P Q G y a d R S Z e' : Int} {v : Bool} {tx : Option Addr} {n cp : Nat} {T : List Int} (w : World) (hT : Txt w tx n T) (hP : 0 ≤ P) (hQ : 0 ≤ Q) (hG : 0 ≤ G) (y0 : 0 ≤ y) (a0 : 0 ≤ a) (d0 : 0 ≤ d) (R0 : 0 ≤ R) (S0 : 0 ≤ S) (Z0 : 0 ≤ Z) (hn : n ≤ 8100) (h : RetB (lgS (askS P Q G [Z] [y, a, d, R, S]) n) (evP P Q G y a d R S Z T) v e') :
    Calls Tryz.prog 48 #[.agg #[.int .u64 P, .int .u64 Q, .int .u64 G], .int .u64 y, .int .u64 a, .int .u64 d, .agg #[.int .u64 R, .int .u64 S, .int .u64 Z], .slice tx n cp] w fun e w' => e = .returned (.tuple #[.bool v, .int .i64 e']) ∧ Below w.heap.size w w' := by
  have HT := Lh hT
  clear hT
  rcases h with ⟨h, hv, rfl⟩ | ⟨h, rfl, hc⟩
  · obtain ⟨h, hn8⟩ := lgS_zero h
    obtain ⟨hH, he, hnn⟩ := askS_zero h
    have HR := Lh h
    have HV := Lh hv
    have HLG := Lh (show lgS 0 n = 0 from lgS_ok rfl hn8)
    have ZQ := he Z (by simp)
    have yP := hnn y (by simp)
    have aP := hnn a (by simp)
    have dP := hnn d (by simp)
    have RP := hnn R (by simp)
    have SP := hnn S (by simp)
    clear h hv he hnn
    obtain ⟨p5, p3, hQ', pq, g2, gP⟩ := id hH
    have hP1 : 1 ≤ P := by omega
    have hGM : G < 2147483648 := by omega
    have q3 : Q < 1073741824 := by omega
    have q2 : 2 ≤ Q := by omega
    have HH := Lh hH
    clear hH pq
    have F_g := Lh (show Boxed ((((w.alloc (.cells #[.int .u64 P, .int .u64 Q, .int .u64 G] 24)).alloc (.cells #[.int .u64 R, .int .u64 S, .int .u64 Z] 53)).alloc (.cells #[.int .u64 Z] 22)).alloc (.cells #[.int .u64 y, .int .u64 a, .int .u64 d, .int .u64 R, .int .u64 S] 22)) (w.heap.size) P Q G from (((Boxed.at _ P Q G _ (w.heap.size) (by simp)).alloc _).alloc _).alloc _)
    have F_es := Lh (show ShL ((((w.alloc (.cells #[.int .u64 P, .int .u64 Q, .int .u64 G] 24)).alloc (.cells #[.int .u64 R, .int .u64 S, .int .u64 Z] 53)).alloc (.cells #[.int .u64 Z] 22)).alloc (.cells #[.int .u64 y, .int .u64 a, .int .u64 d, .int .u64 R, .int .u64 S] 22)) (some ⟨w.heap.size + 1 + 1, 0, none⟩) 1 1 [Z] from (ShL.laid _ [Z] _ _ (w.heap.size + 1 + 1) _ _ (by simp) rfl rfl).alloc _)
    have F_ns := Lh (show ShL ((((w.alloc (.cells #[.int .u64 P, .int .u64 Q, .int .u64 G] 24)).alloc (.cells #[.int .u64 R, .int .u64 S, .int .u64 Z] 53)).alloc (.cells #[.int .u64 Z] 22)).alloc (.cells #[.int .u64 y, .int .u64 a, .int .u64 d, .int .u64 R, .int .u64 S] 22)) (some ⟨w.heap.size + 1 + 1 + 1, 0, none⟩) 5 5 [y, a, d, R, S] from ShL.laid _ [y, a, d, R, S] _ _ (w.heap.size + 1 + 1 + 1) _ _ (by simp) rfl rfl)
    have F_p := Lh (show Arr .u64 ((((w.alloc (.cells #[.int .u64 P, .int .u64 Q, .int .u64 G] 24)).alloc (.cells #[.int .u64 R, .int .u64 S, .int .u64 Z] 53)).alloc (.cells #[.int .u64 Z] 22)).alloc (.cells #[.int .u64 y, .int .u64 a, .int .u64 d, .int .u64 R, .int .u64 S] 22)) (w.heap.size + 1) [R, S, Z] from ((Arr.new .u64 _ [R, S, Z] _ (w.heap.size + 1) (by simp)).alloc _).alloc _)
    have HBW := Lh (show Below w.heap.size w ((((w.alloc (.cells #[.int .u64 P, .int .u64 Q, .int .u64 G] 24)).alloc (.cells #[.int .u64 R, .int .u64 S, .int .u64 Z] 53)).alloc (.cells #[.int .u64 Z] 22)).alloc (.cells #[.int .u64 y, .int .u64 a, .int .u64 d, .int .u64 R, .int .u64 S] 22)) from ((((Below.refl _ _).alloc (by simp <;> omega) _).alloc (by simp <;> omega) _).alloc (by simp <;> omega) _).alloc (by simp <;> omega) _)
    go_enter Tryz.func48, Tryz.ntmps48
    obtain ⟨q1_0, q1_1, q1_2, q1_3, q1_4, q1_5⟩ := Arr.k3 F_p.o
    obtain ⟨x0a, x0b, x0c, -⟩ := id F_g.o
    go_wp2_with fail
    clear x0a x0b x0c q1_0 q1_1 q1_2 q1_3 q1_4 q1_5
    refine (rAsked_any _ hP hQ hG F_es.o F_ns.o (by simp) (by simp) HR.o).mono ?_
    rintro e w1 ⟨rfl, hb1⟩
    replace F_g := Lh (F_g.o.keep hb1)
    replace F_p := Lh (F_p.o.keep hb1)
    replace F_es := Lh (F_es.o.keep hb1)
    replace F_ns := Lh (F_ns.o.keep hb1)
    replace HBW := Lh (HBW.o.trans (hb1.mono HBW.o.size))
    clear hb1
    clear F_es
    clear F_ns
    obtain ⟨q1_0, q1_1, q1_2, q1_3, q1_4, q1_5⟩ := Arr.k3 F_p.o
    obtain ⟨x0a, x0b, x0c, -⟩ := id F_g.o
    go_wp2_with fail
    clear x0a x0b x0c q1_0 q1_1 q1_2 q1_3 q1_4 q1_5
    refine (rlong_any _ HLG.o).mono ?_
    rintro e w2 ⟨rfl, rfl⟩
    obtain ⟨q1_0, q1_1, q1_2, q1_3, q1_4, q1_5⟩ := Arr.k3 F_p.o
    obtain ⟨x0a, x0b, x0c, -⟩ := id F_g.o
    go_wp2_with fail
    clear x0a x0b x0c q1_0 q1_1 q1_2 q1_3 q1_4 q1_5
    refine (rEqualGood_any (v := v) _ (HT.o.keep HBW.o) HH.o y0 yP a0 aP d0 dP R0 RP S0 SP Z0 ZQ hn8 HV.o).mono ?_
    rintro e w3 ⟨rfl, hb3⟩
    replace F_g := Lh (F_g.o.keep hb3)
    replace F_p := Lh (F_p.o.keep hb3)
    replace HBW := Lh (HBW.o.trans (hb3.mono HBW.o.size))
    clear hb3
    obtain ⟨q1_0, q1_1, q1_2, q1_3, q1_4, q1_5⟩ := Arr.k3 F_p.o
    obtain ⟨x0a, x0b, x0c, -⟩ := id F_g.o
    go_wp2_with fail
    go_ret2
    exact ⟨rfl, HBW.o⟩
  · by_cases ha : askS P Q G [Z] [y, a, d, R, S] = 0
    · have hn8 := lgS_long ha h
      obtain rfl : e' = 4 := by rw [hc]; exact lgS_four ha hn8
      have HR := Lh ha
      have HLG := Lh (show lgS 0 n = 4 from lgS_four rfl hn8)
      clear h hc ha
      have F_g := Lh (show Boxed ((((w.alloc (.cells #[.int .u64 P, .int .u64 Q, .int .u64 G] 24)).alloc (.cells #[.int .u64 R, .int .u64 S, .int .u64 Z] 53)).alloc (.cells #[.int .u64 Z] 22)).alloc (.cells #[.int .u64 y, .int .u64 a, .int .u64 d, .int .u64 R, .int .u64 S] 22)) (w.heap.size) P Q G from (((Boxed.at _ P Q G _ (w.heap.size) (by simp)).alloc _).alloc _).alloc _)
      have F_es := Lh (show ShL ((((w.alloc (.cells #[.int .u64 P, .int .u64 Q, .int .u64 G] 24)).alloc (.cells #[.int .u64 R, .int .u64 S, .int .u64 Z] 53)).alloc (.cells #[.int .u64 Z] 22)).alloc (.cells #[.int .u64 y, .int .u64 a, .int .u64 d, .int .u64 R, .int .u64 S] 22)) (some ⟨w.heap.size + 1 + 1, 0, none⟩) 1 1 [Z] from (ShL.laid _ [Z] _ _ (w.heap.size + 1 + 1) _ _ (by simp) rfl rfl).alloc _)
      have F_ns := Lh (show ShL ((((w.alloc (.cells #[.int .u64 P, .int .u64 Q, .int .u64 G] 24)).alloc (.cells #[.int .u64 R, .int .u64 S, .int .u64 Z] 53)).alloc (.cells #[.int .u64 Z] 22)).alloc (.cells #[.int .u64 y, .int .u64 a, .int .u64 d, .int .u64 R, .int .u64 S] 22)) (some ⟨w.heap.size + 1 + 1 + 1, 0, none⟩) 5 5 [y, a, d, R, S] from ShL.laid _ [y, a, d, R, S] _ _ (w.heap.size + 1 + 1 + 1) _ _ (by simp) rfl rfl)
      have F_p := Lh (show Arr .u64 ((((w.alloc (.cells #[.int .u64 P, .int .u64 Q, .int .u64 G] 24)).alloc (.cells #[.int .u64 R, .int .u64 S, .int .u64 Z] 53)).alloc (.cells #[.int .u64 Z] 22)).alloc (.cells #[.int .u64 y, .int .u64 a, .int .u64 d, .int .u64 R, .int .u64 S] 22)) (w.heap.size + 1) [R, S, Z] from ((Arr.new .u64 _ [R, S, Z] _ (w.heap.size + 1) (by simp)).alloc _).alloc _)
      have HBW := Lh (show Below w.heap.size w ((((w.alloc (.cells #[.int .u64 P, .int .u64 Q, .int .u64 G] 24)).alloc (.cells #[.int .u64 R, .int .u64 S, .int .u64 Z] 53)).alloc (.cells #[.int .u64 Z] 22)).alloc (.cells #[.int .u64 y, .int .u64 a, .int .u64 d, .int .u64 R, .int .u64 S] 22)) from ((((Below.refl _ _).alloc (by simp <;> omega) _).alloc (by simp <;> omega) _).alloc (by simp <;> omega) _).alloc (by simp <;> omega) _)
      go_enter Tryz.func48, Tryz.ntmps48
      obtain ⟨q1_0, q1_1, q1_2, q1_3, q1_4, q1_5⟩ := Arr.k3 F_p.o
      obtain ⟨x0a, x0b, x0c, -⟩ := id F_g.o
      go_wp2_with fail
      clear x0a x0b x0c q1_0 q1_1 q1_2 q1_3 q1_4 q1_5
      refine (rAsked_any _ hP hQ hG F_es.o F_ns.o (by simp) (by simp) HR.o).mono ?_
      rintro e w1 ⟨rfl, hb1⟩
      replace F_g := Lh (F_g.o.keep hb1)
      replace F_p := Lh (F_p.o.keep hb1)
      replace F_es := Lh (F_es.o.keep hb1)
      replace F_ns := Lh (F_ns.o.keep hb1)
      replace HBW := Lh (HBW.o.trans (hb1.mono HBW.o.size))
      clear hb1
      clear F_es
      clear F_ns
      obtain ⟨q1_0, q1_1, q1_2, q1_3, q1_4, q1_5⟩ := Arr.k3 F_p.o
      obtain ⟨x0a, x0b, x0c, -⟩ := id F_g.o
      go_wp2_with fail
      clear x0a x0b x0c q1_0 q1_1 q1_2 q1_3 q1_4 q1_5
      refine (rlong_any _ HLG.o).mono ?_
      rintro e w2 ⟨rfl, rfl⟩
      obtain ⟨q1_0, q1_1, q1_2, q1_3, q1_4, q1_5⟩ := Arr.k3 F_p.o
      obtain ⟨x0a, x0b, x0c, -⟩ := id F_g.o
      go_wp2_with fail
      go_ret2
      exact ⟨rfl, HBW.o⟩
    · have hc' : e' = askS P Q G [Z] [y, a, d, R, S] := by rw [hc]; exact lgS_ne ha
      have hnc : e' ≠ 0 := by rw [hc']; exact ha
      have hn1 : (e' != 0) = true := by simpa using hnc
      have HR := Lh hc'.symm
      have HLG := Lh (show lgS e' n = e' from lgS_ne hnc)
      clear h hc ha hc' hnc
      have F_g := Lh (show Boxed ((((w.alloc (.cells #[.int .u64 P, .int .u64 Q, .int .u64 G] 24)).alloc (.cells #[.int .u64 R, .int .u64 S, .int .u64 Z] 53)).alloc (.cells #[.int .u64 Z] 22)).alloc (.cells #[.int .u64 y, .int .u64 a, .int .u64 d, .int .u64 R, .int .u64 S] 22)) (w.heap.size) P Q G from (((Boxed.at _ P Q G _ (w.heap.size) (by simp)).alloc _).alloc _).alloc _)
      have F_es := Lh (show ShL ((((w.alloc (.cells #[.int .u64 P, .int .u64 Q, .int .u64 G] 24)).alloc (.cells #[.int .u64 R, .int .u64 S, .int .u64 Z] 53)).alloc (.cells #[.int .u64 Z] 22)).alloc (.cells #[.int .u64 y, .int .u64 a, .int .u64 d, .int .u64 R, .int .u64 S] 22)) (some ⟨w.heap.size + 1 + 1, 0, none⟩) 1 1 [Z] from (ShL.laid _ [Z] _ _ (w.heap.size + 1 + 1) _ _ (by simp) rfl rfl).alloc _)
      have F_ns := Lh (show ShL ((((w.alloc (.cells #[.int .u64 P, .int .u64 Q, .int .u64 G] 24)).alloc (.cells #[.int .u64 R, .int .u64 S, .int .u64 Z] 53)).alloc (.cells #[.int .u64 Z] 22)).alloc (.cells #[.int .u64 y, .int .u64 a, .int .u64 d, .int .u64 R, .int .u64 S] 22)) (some ⟨w.heap.size + 1 + 1 + 1, 0, none⟩) 5 5 [y, a, d, R, S] from ShL.laid _ [y, a, d, R, S] _ _ (w.heap.size + 1 + 1 + 1) _ _ (by simp) rfl rfl)
      have F_p := Lh (show Arr .u64 ((((w.alloc (.cells #[.int .u64 P, .int .u64 Q, .int .u64 G] 24)).alloc (.cells #[.int .u64 R, .int .u64 S, .int .u64 Z] 53)).alloc (.cells #[.int .u64 Z] 22)).alloc (.cells #[.int .u64 y, .int .u64 a, .int .u64 d, .int .u64 R, .int .u64 S] 22)) (w.heap.size + 1) [R, S, Z] from ((Arr.new .u64 _ [R, S, Z] _ (w.heap.size + 1) (by simp)).alloc _).alloc _)
      have HBW := Lh (show Below w.heap.size w ((((w.alloc (.cells #[.int .u64 P, .int .u64 Q, .int .u64 G] 24)).alloc (.cells #[.int .u64 R, .int .u64 S, .int .u64 Z] 53)).alloc (.cells #[.int .u64 Z] 22)).alloc (.cells #[.int .u64 y, .int .u64 a, .int .u64 d, .int .u64 R, .int .u64 S] 22)) from ((((Below.refl _ _).alloc (by simp <;> omega) _).alloc (by simp <;> omega) _).alloc (by simp <;> omega) _).alloc (by simp <;> omega) _)
      go_enter Tryz.func48, Tryz.ntmps48
      obtain ⟨q1_0, q1_1, q1_2, q1_3, q1_4, q1_5⟩ := Arr.k3 F_p.o
      obtain ⟨x0a, x0b, x0c, -⟩ := id F_g.o
      go_wp2_with fail
      clear x0a x0b x0c q1_0 q1_1 q1_2 q1_3 q1_4 q1_5
      refine (rAsked_any _ hP hQ hG F_es.o F_ns.o (by simp) (by simp) HR.o).mono ?_
      rintro e w1 ⟨rfl, hb1⟩
      replace F_g := Lh (F_g.o.keep hb1)
      replace F_p := Lh (F_p.o.keep hb1)
      replace F_es := Lh (F_es.o.keep hb1)
      replace F_ns := Lh (F_ns.o.keep hb1)
      replace HBW := Lh (HBW.o.trans (hb1.mono HBW.o.size))
      clear hb1
      clear F_es
      clear F_ns
      obtain ⟨q1_0, q1_1, q1_2, q1_3, q1_4, q1_5⟩ := Arr.k3 F_p.o
      obtain ⟨x0a, x0b, x0c, -⟩ := id F_g.o
      go_wp2_with fail
      clear x0a x0b x0c q1_0 q1_1 q1_2 q1_3 q1_4 q1_5
      refine (rlong_any _ HLG.o).mono ?_
      rintro e w2 ⟨rfl, rfl⟩
      obtain ⟨q1_0, q1_1, q1_2, q1_3, q1_4, q1_5⟩ := Arr.k3 F_p.o
      obtain ⟨x0a, x0b, x0c, -⟩ := id F_g.o
      go_wp2_with fail
      go_ret2
      exact ⟨rfl, HBW.o⟩
end Go.Proofs.YtkjkdfhjfnoalaaGreatDoor
