/- ProofEqual: the statement: for every input the law returns true, and the arguments read as before. -/
import Derived.Test.YtmcpfinnhgbcpaaDoorCardP
namespace Go.Proofs.YtmcpfinnhgbcpaaDoor.lawEqual
open Go Sha Go.ChangeShapes Go.WideShapes Go.ChangeAt Go.RowKit Num
set_option linter.unusedSimpArgs false
set_option linter.unusedVariables false

set_option maxRecDepth 100000 in
set_option maxHeartbeats 6400000 in
theorem walk (P Q G x k y a d R S Z c : Int) (tx : Option Addr) (n cp : Nat) (T : List Int) (w : World) (uP : U64 P) (uQ : U64 Q) (uG : U64 G) (ux : U64 x) (uk : U64 k) (uy : U64 y) (ua : U64 a) (ud : U64 d) (uR : U64 R) (uS : U64 S) (uZ : U64 Z) (uc : U64 c) (ht : ShI .u8 w tx n T) (hb : ByteL T) (hz : tx = none → cp = 0) (hnc : n ≤ cp) (hT : Tabs w) :
    Calls Tryd.prog 3 #[.agg #[.int .u64 P, .int .u64 Q, .int .u64 G], .int .u64 x, .int .u64 k, .int .u64 y, .int .u64 a, .int .u64 d, .agg #[.int .u64 R, .int .u64 S, .int .u64 Z], .int .u64 c, .slice tx n cp] w fun e w' => e = .returned (.bool true) ∧ Below w.heap.size w w' := by
  have hP := uP.1
  have hQ := uQ.1
  have hG := uG.1
  have x0 := ux.1
  have k0 := uk.1
  have y0 := uy.1
  have a0 := ua.1
  have d0 := ud.1
  have R0 := uR.1
  have S0 := uS.1
  have Z0 := uZ.1
  have c0 := uc.1
  have HT := Lib.hid (show Txt w tx n T from ⟨hT, ht, hb⟩)
  clear ht hb hT hz hnc
  by_cases hn : 8100 < n
  case pos =>
    have hd : decide ((8100 : Int) < (n : Int)) = true := by simp; omega
    have hdn : decide (8100 < n) = true := by simp; omega
    have F_g := Lib.hid (show Boxed ((w.alloc (.cells #[.int .u64 P, .int .u64 Q, .int .u64 G] 24)).alloc (.cells #[.int .u64 R, .int .u64 S, .int .u64 Z] 26)) (w.heap.size) P Q G from (Boxed.at _ P Q G _ (w.heap.size) (by simp)).alloc _)
    have F_c := Lib.hid (show Arr .u64 ((w.alloc (.cells #[.int .u64 P, .int .u64 Q, .int .u64 G] 24)).alloc (.cells #[.int .u64 R, .int .u64 S, .int .u64 Z] 26)) (w.heap.size + 1) [R, S, Z] from Arr.new .u64 _ [R, S, Z] _ (w.heap.size + 1) (by simp))
    have HBW := Lib.hid (show Below w.heap.size w ((w.alloc (.cells #[.int .u64 P, .int .u64 Q, .int .u64 G] 24)).alloc (.cells #[.int .u64 R, .int .u64 S, .int .u64 Z] 26)) from ((Below.refl _ _).alloc (by simp <;> omega) _).alloc (by simp <;> omega) _)
    go_enter Tryd.func3, Tryd.ntmps3
    obtain ⟨q1_0, q1_1, q1_2, q1_3, q1_4, q1_5⟩ := Arr.k3 F_c.out
    obtain ⟨x0a, x0b, x0c, -⟩ := id F_g.out
    go_wp2_with fail
    clear x0a x0b x0c q1_0 q1_1 q1_2 q1_3 q1_4 q1_5
    refine (rLong_any _).mono ?_
    rintro e w1 ⟨rfl, rfl⟩
    obtain ⟨q1_0, q1_1, q1_2, q1_3, q1_4, q1_5⟩ := Arr.k3 F_c.out
    obtain ⟨x0a, x0b, x0c, -⟩ := id F_g.out
    go_wp2_with fail
    go_ret
    exact ⟨rfl, HBW.out⟩
  case neg =>
    replace hn : n ≤ 8100 := by omega
    have hd : decide ((8100 : Int) < (n : Int)) = false := by simp; omega
    have hdn : decide (8100 < n) = false := by simp; omega
    obtain ⟨e1, e2, e3, ec, hHC⟩ := RetE.exists (lgS (askS P Q G [x, k] [a]) n) (powm G k P) (powm a k P) (eqZ P Q G a x k T)
    have HC := Lib.hid hHC
    clear hHC
    obtain ⟨b2, c2, hHH⟩ := RetB.exists (askS P Q G [Z, c] [y, a, d, R, S]) (powm G Z P = R * powm y c P % P ∧ powm a Z P = S * powm d c P % P)
    have HH := Lib.hid hHH
    clear hHH
    obtain ⟨b3, c3, hHV⟩ := RetB.exists (lgS (askS P Q G [Z] [y, a, d, R, S]) n) (evP P Q G y a d R S Z T)
    have HV := Lib.hid hHV
    clear hHV
    have F_g := Lib.hid (show Boxed ((w.alloc (.cells #[.int .u64 P, .int .u64 Q, .int .u64 G] 24)).alloc (.cells #[.int .u64 R, .int .u64 S, .int .u64 Z] 26)) (w.heap.size) P Q G from (Boxed.at _ P Q G _ (w.heap.size) (by simp)).alloc _)
    have F_c := Lib.hid (show Arr .u64 ((w.alloc (.cells #[.int .u64 P, .int .u64 Q, .int .u64 G] 24)).alloc (.cells #[.int .u64 R, .int .u64 S, .int .u64 Z] 26)) (w.heap.size + 1) [R, S, Z] from Arr.new .u64 _ [R, S, Z] _ (w.heap.size + 1) (by simp))
    have HBW := Lib.hid (show Below w.heap.size w ((w.alloc (.cells #[.int .u64 P, .int .u64 Q, .int .u64 G] 24)).alloc (.cells #[.int .u64 R, .int .u64 S, .int .u64 Z] 26)) from ((Below.refl _ _).alloc (by simp <;> omega) _).alloc (by simp <;> omega) _)
    go_enter Tryd.func3, Tryd.ntmps3
    have hcv := conv_text (c := cp) (HT.out.keep HBW.out).sh
    obtain ⟨q1_0, q1_1, q1_2, q1_3, q1_4, q1_5⟩ := Arr.k3 F_c.out
    obtain ⟨x0a, x0b, x0c, -⟩ := id F_g.out
    go_wp2_with fail
    clear x0a x0b x0c q1_0 q1_1 q1_2 q1_3 q1_4 q1_5
    refine (rLong_any _).mono ?_
    rintro e w1 ⟨rfl, rfl⟩
    obtain ⟨q1_0, q1_1, q1_2, q1_3, q1_4, q1_5⟩ := Arr.k3 F_c.out
    obtain ⟨x0a, x0b, x0c, -⟩ := id F_g.out
    go_wp2_with fail
    clear hcv
    clear x0a x0b x0c q1_0 q1_1 q1_2 q1_3 q1_4 q1_5
    refine (peqProve_any _ (HT.out.keep HBW.out) hP hQ hG a0 x0 k0 hn HC.out).mono ?_
    rintro e w2 ⟨rfl, hb2⟩
    replace F_g := Lib.hid (F_g.out.keep hb2)
    replace F_c := Lib.hid (F_c.out.keep hb2)
    replace HBW := Lib.hid (HBW.out.trans (hb2.mono HBW.out.size))
    clear hb2
    have hzg := F_g.out.lt
    have hzc := F_c.out.lt
    obtain ⟨q1_0, q1_1, q1_2, q1_3, q1_4, q1_5⟩ := Arr.k3 F_c.out
    obtain ⟨x0a, x0b, x0c, -⟩ := id F_g.out
    go_wp2_with fail
    clear hzg hzc
    replace F_g := Lib.hid (F_g.out.alloc (.cells #[.int .u64 e1, .int .u64 e2, .int .u64 e3] 26))
    replace F_c := Lib.hid (F_c.out.alloc (.cells #[.int .u64 e1, .int .u64 e2, .int .u64 e3] 26))
    have F_x1 := Lib.hid (show Arr .u64 (w2.alloc (.cells #[.int .u64 e1, .int .u64 e2, .int .u64 e3] 26)) (w2.heap.size) [e1, e2, e3] from Arr.new .u64 w2 [e1, e2, e3] _ _ rfl)
    replace HBW := Lib.hid (HBW.out.alloc HBW.out.size (.cells #[.int .u64 e1, .int .u64 e2, .int .u64 e3] 26))
    clear x0a x0b x0c q1_0 q1_1 q1_2 q1_3 q1_4 q1_5
    refine (reqProve_any _ (HT.out.keep HBW.out) hP hQ hG a0 x0 k0 hn HC.out).mono ?_
    rintro e w3 ⟨rfl, hb3⟩
    replace F_g := Lib.hid (F_g.out.keep hb3)
    replace F_c := Lib.hid (F_c.out.keep hb3)
    replace F_x1 := Lib.hid (F_x1.out.keep hb3)
    replace HBW := Lib.hid (HBW.out.trans (hb3.mono HBW.out.size))
    clear hb3
    have hzg := F_g.out.lt
    have hzc := F_c.out.lt
    have hz1 := F_x1.out.lt
    obtain ⟨q1_0, q1_1, q1_2, q1_3, q1_4, q1_5⟩ := Arr.k3 F_c.out
    obtain ⟨q2_0, q2_1, q2_2, q2_3, q2_4, q2_5⟩ := Arr.k3 F_x1.out
    obtain ⟨x0a, x0b, x0c, -⟩ := id F_g.out
    go_wp2_with fail
    clear hzg hzc hz1
    replace F_g := Lib.hid (F_g.out.alloc (.cells #[.int .u64 e1, .int .u64 e2, .int .u64 e3] 26))
    replace F_c := Lib.hid (F_c.out.alloc (.cells #[.int .u64 e1, .int .u64 e2, .int .u64 e3] 26))
    replace F_x1 := Lib.hid (F_x1.out.alloc (.cells #[.int .u64 e1, .int .u64 e2, .int .u64 e3] 26))
    have F_x2 := Lib.hid (show Arr .u64 (w3.alloc (.cells #[.int .u64 e1, .int .u64 e2, .int .u64 e3] 26)) (w3.heap.size) [e1, e2, e3] from Arr.new .u64 w3 [e1, e2, e3] _ _ rfl)
    replace HBW := Lib.hid (HBW.out.alloc HBW.out.size (.cells #[.int .u64 e1, .int .u64 e2, .int .u64 e3] 26))
    clear x0a x0b x0c q1_0 q1_1 q1_2 q1_3 q1_4 q1_5 q2_0 q2_1 q2_2 q2_3 q2_4 q2_5
    refine (equalHolds_any _ hP hQ hG y0 a0 d0 R0 S0 Z0 c0 HH.out).mono ?_
    rintro e w4 ⟨rfl, hb4⟩
    replace F_g := Lib.hid (F_g.out.keep hb4)
    replace F_c := Lib.hid (F_c.out.keep hb4)
    replace F_x1 := Lib.hid (F_x1.out.keep hb4)
    replace F_x2 := Lib.hid (F_x2.out.keep hb4)
    replace HBW := Lib.hid (HBW.out.trans (hb4.mono HBW.out.size))
    clear hb4
    obtain ⟨q1_0, q1_1, q1_2, q1_3, q1_4, q1_5⟩ := Arr.k3 F_c.out
    obtain ⟨q2_0, q2_1, q2_2, q2_3, q2_4, q2_5⟩ := Arr.k3 F_x1.out
    obtain ⟨q3_0, q3_1, q3_2, q3_3, q3_4, q3_5⟩ := Arr.k3 F_x2.out
    obtain ⟨x0a, x0b, x0c, -⟩ := id F_g.out
    go_wp2_with fail
    clear x0a x0b x0c q1_0 q1_1 q1_2 q1_3 q1_4 q1_5 q2_0 q2_1 q2_2 q2_3 q2_4 q2_5 q3_0 q3_1 q3_2 q3_3 q3_4 q3_5
    refine (reqHolds_any _ hP hQ hG y0 a0 d0 R0 S0 Z0 c0 HH.out).mono ?_
    rintro e w5 ⟨rfl, hb5⟩
    replace F_g := Lib.hid (F_g.out.keep hb5)
    replace F_c := Lib.hid (F_c.out.keep hb5)
    replace F_x1 := Lib.hid (F_x1.out.keep hb5)
    replace F_x2 := Lib.hid (F_x2.out.keep hb5)
    replace HBW := Lib.hid (HBW.out.trans (hb5.mono HBW.out.size))
    clear hb5
    obtain ⟨q1_0, q1_1, q1_2, q1_3, q1_4, q1_5⟩ := Arr.k3 F_c.out
    obtain ⟨q2_0, q2_1, q2_2, q2_3, q2_4, q2_5⟩ := Arr.k3 F_x1.out
    obtain ⟨q3_0, q3_1, q3_2, q3_3, q3_4, q3_5⟩ := Arr.k3 F_x2.out
    obtain ⟨x0a, x0b, x0c, -⟩ := id F_g.out
    go_wp2_with fail
    clear x0a x0b x0c q1_0 q1_1 q1_2 q1_3 q1_4 q1_5 q2_0 q2_1 q2_2 q2_3 q2_4 q2_5 q3_0 q3_1 q3_2 q3_3 q3_4 q3_5
    refine (peqVerify_any _ (HT.out.keep HBW.out) hP hQ hG y0 a0 d0 R0 S0 Z0 hn HV.out).mono ?_
    rintro e w6 ⟨rfl, hb6⟩
    replace F_g := Lib.hid (F_g.out.keep hb6)
    replace F_c := Lib.hid (F_c.out.keep hb6)
    replace F_x1 := Lib.hid (F_x1.out.keep hb6)
    replace F_x2 := Lib.hid (F_x2.out.keep hb6)
    replace HBW := Lib.hid (HBW.out.trans (hb6.mono HBW.out.size))
    clear hb6
    obtain ⟨q1_0, q1_1, q1_2, q1_3, q1_4, q1_5⟩ := Arr.k3 F_c.out
    obtain ⟨q2_0, q2_1, q2_2, q2_3, q2_4, q2_5⟩ := Arr.k3 F_x1.out
    obtain ⟨q3_0, q3_1, q3_2, q3_3, q3_4, q3_5⟩ := Arr.k3 F_x2.out
    obtain ⟨x0a, x0b, x0c, -⟩ := id F_g.out
    go_wp2_with fail
    clear x0a x0b x0c q1_0 q1_1 q1_2 q1_3 q1_4 q1_5 q2_0 q2_1 q2_2 q2_3 q2_4 q2_5 q3_0 q3_1 q3_2 q3_3 q3_4 q3_5
    refine (reqVerify_any _ (HT.out.keep HBW.out) hP hQ hG y0 a0 d0 R0 S0 Z0 hn HV.out).mono ?_
    rintro e w7 ⟨rfl, hb7⟩
    replace F_g := Lib.hid (F_g.out.keep hb7)
    replace F_c := Lib.hid (F_c.out.keep hb7)
    replace F_x1 := Lib.hid (F_x1.out.keep hb7)
    replace F_x2 := Lib.hid (F_x2.out.keep hb7)
    replace HBW := Lib.hid (HBW.out.trans (hb7.mono HBW.out.size))
    clear hb7
    have hcv := conv_text (c := cp) (HT.out.keep HBW.out).sh
    obtain ⟨q1_0, q1_1, q1_2, q1_3, q1_4, q1_5⟩ := Arr.k3 F_c.out
    obtain ⟨q2_0, q2_1, q2_2, q2_3, q2_4, q2_5⟩ := Arr.k3 F_x1.out
    obtain ⟨q3_0, q3_1, q3_2, q3_3, q3_4, q3_5⟩ := Arr.k3 F_x2.out
    obtain ⟨x0a, x0b, x0c, -⟩ := id F_g.out
    go_wp2_with fail
    go_ret
    exact ⟨rfl, HBW.out⟩


set_option maxRecDepth 100000 in
theorem lifted (os : Os) (started : os.Started) (H : Type) (enc : TypeId × Value → H) :
    ReturnsInHanded {} Tryd.checked os 3 .any (fun w args => (Rows.proofEqualSpec.pre enc Tryd.prog Tryd.f3 [] false w args ∧ laidMetH Tryd.prog laidL w) ∧ sizedMet enc Tryd.prog Tryd.f3 (OpenSpec.ofChange Rows.proofEqualSpec) false w args) (Rows.proofEqualSpec.post enc Tryd.prog Tryd.f3 false true false false) := by
  refine returnsInHanded_of_change_and (C := Tryd.checked) (X := fun w _ => laidMetH Tryd.prog laidL w) (fun _ _ _ hh h => h.of_heap hh) own started (by kernel_rfl) Tryd.func3
    (ChangeSpec.witness_shaped (enc := enc) (C := Tryd.checked) (os := os) (X := fun w _ => laidMetH Tryd.prog laidL w) false (World.doorLaid Tryd.prog 19 os) #[.agg #[.int .u64 0, .int .u64 0, .int .u64 0], .int .u64 0, .int .u64 0, .int .u64 0, .int .u64 0, .int .u64 0, .agg #[.int .u64 0, .int .u64 0, .int .u64 0], .int .u64 0, .slice none 0 0] 8 rfl (World.shaped_of_RefB (by kernel_rfl) (by kernel_rfl)) (by kernel_rfl) (by kernel_rfl) (by kernel_rfl) (door_met os _)) ?_
  intro W base args ds gs before hval0 hW _ _ hL _
  have hT := tabs_of_laid hL
  clear hL
  have hval : ∀ (j : Nat) t v, Tryd.f3.params[j]? = some t → args[j]? = some v → Value.okWide Tryd.prog W .any base t v := hval0
  have hW' := hW
  obtain ⟨p, q, hA0, hV, rfl, hfz, hnd⟩ := hW
  have hA : DataW.TrodAll enc Tryd.prog W 0 (fun _ => true) true Tryd.f3.params.toList args.toList ds p := hA0
  rw [Tryd.params3] at hA hval
  have hK := hA
  obtain ⟨v0, vs0, d0, ds0, p0, q0, hargs, rfl, rfl, h0, r0⟩ := trodAll_cons hA
  obtain ⟨v1, vs1, d1, ds1, p1, q1, rfl, rfl, rfl, h1, r1⟩ := trodAll_cons r0
  obtain ⟨v2, vs2, d2, ds2, p2, q2, rfl, rfl, rfl, h2, r2⟩ := trodAll_cons r1
  obtain ⟨v3, vs3, d3, ds3, p3, q3, rfl, rfl, rfl, h3, r3⟩ := trodAll_cons r2
  obtain ⟨v4, vs4, d4, ds4, p4, q4, rfl, rfl, rfl, h4, r4⟩ := trodAll_cons r3
  obtain ⟨v5, vs5, d5, ds5, p5, q5, rfl, rfl, rfl, h5, r5⟩ := trodAll_cons r4
  obtain ⟨v6, vs6, d6, ds6, p6, q6, rfl, rfl, rfl, h6, r6⟩ := trodAll_cons r5
  obtain ⟨v7, vs7, d7, ds7, p7, q7, rfl, rfl, rfl, h7, r7⟩ := trodAll_cons r6
  obtain ⟨v8, vs8, d8, ds8, p8, q8, rfl, rfl, rfl, h8, r8⟩ := trodAll_cons r7
  obtain ⟨rfl, rfl, rfl⟩ := trodAll_nil r8
  obtain rfl : args = #[v0, v1, v2, v3, v4, v5, v6, v7, v8] := by cases args; simp_all
  obtain ⟨rfl, rfl⟩ := trodVars_none hV
  obtain ⟨P, Q, G, rfl, uP, uQ, uG⟩ := open_group (hval 0 24 v0 rfl rfl) h0
  obtain ⟨x, rfl, ux⟩ := open_u64 (hval 1 22 v1 rfl rfl) h1
  obtain ⟨k, rfl, uk⟩ := open_u64 (hval 2 22 v2 rfl rfl) h2
  obtain ⟨y, rfl, uy⟩ := open_u64 (hval 3 22 v3 rfl rfl) h3
  obtain ⟨a, rfl, ua⟩ := open_u64 (hval 4 22 v4 rfl rfl) h4
  obtain ⟨d, rfl, ud⟩ := open_u64 (hval 5 22 v5 rfl rfl) h5
  obtain ⟨R, S, Z, rfl, uR, uS, uZ⟩ := open_equal (hval 6 26 v6 rfl rfl) h6
  obtain ⟨c, rfl, uc⟩ := open_u64 (hval 7 22 v7 rfl rfl) h7
  obtain ⟨tx, n, cp, T, rfl, ht, hb, hz, hnc⟩ := open_bytes (hval 8 27 v8 rfl rfl) h8
  clear hA0 hval0
  refine (walk P Q G x k y a d R S Z c tx n cp T W uP uQ uG ux uk uy ua ud uR uS uZ uc ht hb hz hnc hT).mono fun e W' ⟨he, bel⟩ => ?_
  subst he
  exact ⟨_, rfl, _, _, _, [], _, [], hW', trodAll_mk1 (shut_bool Tryd.underlying4 _), trodAll_stays laidOut (by kernel_rfl) hK bel, rfl, bel.frame _, fun h => by cases h⟩

theorem over : Rows.proofEqualRow.holds Tryd.pinned (OpenSpec.ofChange Rows.proofEqualSpec) :=
  OpenClaim.holds_of_wide 3 Tryd.f3 rfl rfl rfl rfl rfl rfl rfl ⟨rfl, rfl, rfl, rfl, rfl⟩ rfl rfl rfl rfl rfl (by kernel_rfl) Tryd.func3 (by kernel_rfl)
    (of_decide_eq_true (by kernel_rfl)) (by unfold Func.isWrapper; first | (rw [if_pos (by decide +kernel)]; kernel_rfl) | (rw [if_neg (by decide +kernel)]; exact ⟨rfl, rfl⟩))
    (fun os started H enc _ => lifted os started H enc)

theorem proved : Rows.ProofEqualCardSaid :=
  Claim7.holds_tied_plain_at .later [] [.data, .data] true (true, "4b41c1e4d249352bcdad7fb442f9b4095dc9194e4b92b27cabf601e235f481d5") false
    over (fun _ h => by cases h) (by kernel_rfl) (fun _ h => by cases h) proofEqual_row_tie rfl ⟨rfl, rfl⟩ (by kernel_rfl) rfl
    (fun f fn hf hfn => by
      obtain rfl : f = 3 := Option.some.inj ((show Tryd.prog.funcNamed "suffrage/suffragelaw33.ProofEqual" = some 3 by kernel_rfl).symm.trans hf) |>.symm
      obtain rfl : fn = Tryd.f3 := (Option.some.inj (Tryd.func3.symm.trans hfn)).symm
      exact ⟨by kernel_rfl, fun j t ht => by
        rw [Tryd.params3] at ht
        have hm : t ∈ ([24, 22, 22, 22, 22, 22, 26, 22, 27] : List TypeId) := by simpa using Array.mem_of_getElem? ht
        have hall : (([24, 22, 22, 22, 22, 22, 26, 22, 27] : List TypeId).all fun u => !Tryd.prog.wantsStandIn u) = true := by kernel_rfl
        exact (show Tryd.prog.wantsStandIn t = false by simpa using List.all_eq_true.1 hall t hm)⟩)
    (by kernel_rfl)
#print axioms proved
end Go.Proofs.YtmcpfinnhgbcpaaDoor.lawEqual
