/- SchnorrSignatures: the statement: for every input the law returns true, and the arguments read as before. -/
import Derived.Test.YtanlnhjjdiaphaaDoorCard
namespace Go.Proofs.YtanlnhjjdiaphaaDoor.lawSignatures
open Go Sha Go.ChangeShapes Go.WideShapes Go.ChangeAt Go.RowKit Num
set_option linter.unusedSimpArgs false
set_option linter.unusedVariables false

set_option maxRecDepth 100000 in
set_option maxHeartbeats 6400000 in
theorem walk (P Q G x y r : Int) (tx : Option Addr) (n cp : Nat) (T : List Int) (R S : Int) (w : World) (uP : U64 P) (uQ : U64 Q) (uG : U64 G) (ux : U64 x) (uy : U64 y) (ur : U64 r) (ht : ShI .u8 w tx n T) (hb : ByteL T) (hz : tx = none → cp = 0) (hnc : n ≤ cp) (uR : U64 R) (uS : U64 S) (hT : Tabs w) :
    Calls Tryd.prog 3 #[.agg #[.int .u64 P, .int .u64 Q, .int .u64 G], .int .u64 x, .int .u64 y, .int .u64 r, .slice tx n cp, .agg #[.int .u64 R, .int .u64 S]] w fun e w' => e = .returned (.bool true) ∧ Below w.heap.size w w' := by
  have hP := uP.1
  have hQ := uQ.1
  have hG := uG.1
  have hS0 := uS.1
  have HT := Lib.hid (show Txt w tx n T from ⟨hT, ht, hb⟩)
  clear ht hb hT hz hnc
  by_cases hn : 8100 < n
  case pos =>
    have hd : decide ((8100 : Int) < (n : Int)) = true := by simp; omega
    have hdn : decide (8100 < n) = true := by simp; omega
    have F_g := Lib.hid (show Boxed ((w.alloc (.cells #[.int .u64 P, .int .u64 Q, .int .u64 G] 24)).alloc (.cells #[.int .u64 R, .int .u64 S] 27)) (w.heap.size) P Q G from (Boxed.at _ P Q G _ (w.heap.size) (by simp)).alloc _)
    have F_c := Lib.hid (show Pair ((w.alloc (.cells #[.int .u64 P, .int .u64 Q, .int .u64 G] 24)).alloc (.cells #[.int .u64 R, .int .u64 S] 27)) (w.heap.size + 1) R S from Pair.at _ R S _ (w.heap.size + 1) (by simp))
    have HBW := Lib.hid (show Below w.heap.size w ((w.alloc (.cells #[.int .u64 P, .int .u64 Q, .int .u64 G] 24)).alloc (.cells #[.int .u64 R, .int .u64 S] 27)) from ((Below.refl _ _).alloc (by simp <;> omega) _).alloc (by simp <;> omega) _)
    go_enter Tryd.func3, Tryd.ntmps3
    obtain ⟨x0a, x0b, x0c, -⟩ := id F_g.out
    obtain ⟨x1a, x1b, x1c, x1d, -⟩ := id F_c.out
    go_wp2_with fail
    clear x0a x0b x0c x1a x1b x1c x1d
    refine (rLong_any _).mono ?_
    rintro e w1 ⟨rfl, rfl⟩
    obtain ⟨x0a, x0b, x0c, -⟩ := id F_g.out
    obtain ⟨x1a, x1b, x1c, x1d, -⟩ := id F_c.out
    go_wp2_with fail
    go_ret
    exact ⟨rfl, HBW.out⟩
  case neg =>
    replace hn : n ≤ 8100 := by omega
    have hd : decide ((8100 : Int) < (n : Int)) = false := by simp; omega
    have hdn : decide (8100 < n) = false := by simp; omega
    obtain ⟨v1, c1, hHC⟩ := RetS.exists (lgS (askS P Q G [] [y, r]) n) (chV Q [y, r] T)
    have HC := Lib.hid hHC
    clear hHC
    obtain ⟨s1, s2, c2, hHS⟩ := RetSig.exists (lgS (keyS P Q G x) n) (sgR P Q G x T) (sgS P Q G x T)
    have HS := Lib.hid hHS
    clear hHS
    obtain ⟨b3, c3, hHV⟩ := RetB.exists (lgS (askS P Q G [S] [y, R]) n) (vfP P Q G y R S T)
    have HV := Lib.hid hHV
    clear hHV
    have F_g := Lib.hid (show Boxed ((w.alloc (.cells #[.int .u64 P, .int .u64 Q, .int .u64 G] 24)).alloc (.cells #[.int .u64 R, .int .u64 S] 27)) (w.heap.size) P Q G from (Boxed.at _ P Q G _ (w.heap.size) (by simp)).alloc _)
    have F_c := Lib.hid (show Pair ((w.alloc (.cells #[.int .u64 P, .int .u64 Q, .int .u64 G] 24)).alloc (.cells #[.int .u64 R, .int .u64 S] 27)) (w.heap.size + 1) R S from Pair.at _ R S _ (w.heap.size + 1) (by simp))
    have HBW := Lib.hid (show Below w.heap.size w ((w.alloc (.cells #[.int .u64 P, .int .u64 Q, .int .u64 G] 24)).alloc (.cells #[.int .u64 R, .int .u64 S] 27)) from ((Below.refl _ _).alloc (by simp <;> omega) _).alloc (by simp <;> omega) _)
    go_enter Tryd.func3, Tryd.ntmps3
    have hcv := conv_text (c := cp) (HT.out.keep HBW.out).sh
    obtain ⟨x0a, x0b, x0c, -⟩ := id F_g.out
    obtain ⟨x1a, x1b, x1c, x1d, -⟩ := id F_c.out
    go_wp2_with fail
    clear x0a x0b x0c x1a x1b x1c x1d
    refine (rLong_any _).mono ?_
    rintro e w1 ⟨rfl, rfl⟩
    obtain ⟨x0a, x0b, x0c, -⟩ := id F_g.out
    obtain ⟨x1a, x1b, x1c, x1d, -⟩ := id F_c.out
    go_wp2_with fail
    clear hcv
    clear x0a x0b x0c x1a x1b x1c x1d
    refine (schallenge_any _ (HT.out.keep HBW.out) hP hQ hG uy ur hn HC.out).mono ?_
    rintro e w2 ⟨rfl, hb2⟩
    replace F_g := Lib.hid (F_g.out.keep hb2)
    replace F_c := Lib.hid (F_c.out.keep hb2)
    replace HBW := Lib.hid (HBW.out.trans (hb2.mono HBW.out.size))
    clear hb2
    obtain ⟨x0a, x0b, x0c, -⟩ := id F_g.out
    obtain ⟨x1a, x1b, x1c, x1d, -⟩ := id F_c.out
    go_wp2_with fail
    clear x0a x0b x0c x1a x1b x1c x1d
    refine (rchallenge_any _ (HT.out.keep HBW.out) hP hQ hG uy ur hn HC.out).mono ?_
    rintro e w3 ⟨rfl, hb3⟩
    replace F_g := Lib.hid (F_g.out.keep hb3)
    replace F_c := Lib.hid (F_c.out.keep hb3)
    replace HBW := Lib.hid (HBW.out.trans (hb3.mono HBW.out.size))
    clear hb3
    obtain ⟨x0a, x0b, x0c, -⟩ := id F_g.out
    obtain ⟨x1a, x1b, x1c, x1d, -⟩ := id F_c.out
    go_wp2_with fail
    clear x0a x0b x0c x1a x1b x1c x1d
    refine (ssign_any _ (HT.out.keep HBW.out) hP hQ hG ux hn HS.out).mono ?_
    rintro e w4 ⟨rfl, hb4⟩
    replace F_g := Lib.hid (F_g.out.keep hb4)
    replace F_c := Lib.hid (F_c.out.keep hb4)
    replace HBW := Lib.hid (HBW.out.trans (hb4.mono HBW.out.size))
    clear hb4
    have hzg := F_g.out.lt
    have hzc := F_c.out.lt
    obtain ⟨x0a, x0b, x0c, -⟩ := id F_g.out
    obtain ⟨x1a, x1b, x1c, x1d, -⟩ := id F_c.out
    go_wp2_with fail
    clear hzg hzc
    replace F_g := Lib.hid (F_g.out.alloc (.cells #[.int .u64 s1, .int .u64 s2] 27))
    replace F_c := Lib.hid (F_c.out.alloc (.cells #[.int .u64 s1, .int .u64 s2] 27))
    have F_x1 := Lib.hid (Pair.new w4 s1 s2 27)
    replace HBW := Lib.hid (HBW.out.alloc HBW.out.size (.cells #[.int .u64 s1, .int .u64 s2] 27))
    clear x0a x0b x0c x1a x1b x1c x1d
    refine (rsign_any _ (HT.out.keep HBW.out) hP hQ hG ux hn HS.out).mono ?_
    rintro e w5 ⟨rfl, hb5⟩
    replace F_g := Lib.hid (F_g.out.keep hb5)
    replace F_c := Lib.hid (F_c.out.keep hb5)
    replace F_x1 := Lib.hid (F_x1.out.keep hb5)
    replace HBW := Lib.hid (HBW.out.trans (hb5.mono HBW.out.size))
    clear hb5
    have hzg := F_g.out.lt
    have hzc := F_c.out.lt
    have hz1 := F_x1.out.lt
    obtain ⟨x0a, x0b, x0c, -⟩ := id F_g.out
    obtain ⟨x1a, x1b, x1c, x1d, -⟩ := id F_c.out
    obtain ⟨x2a, x2b, x2c, x2d, -⟩ := id F_x1.out
    go_wp2_with fail
    clear hzg hzc hz1
    replace F_g := Lib.hid (F_g.out.alloc (.cells #[.int .u64 s1, .int .u64 s2] 27))
    replace F_c := Lib.hid (F_c.out.alloc (.cells #[.int .u64 s1, .int .u64 s2] 27))
    replace F_x1 := Lib.hid (F_x1.out.alloc (.cells #[.int .u64 s1, .int .u64 s2] 27))
    have F_x2 := Lib.hid (Pair.new w5 s1 s2 27)
    replace HBW := Lib.hid (HBW.out.alloc HBW.out.size (.cells #[.int .u64 s1, .int .u64 s2] 27))
    clear x0a x0b x0c x1a x1b x1c x1d x2a x2b x2c x2d
    refine (sverify_any _ (HT.out.keep HBW.out) hP hQ hG uy uR hS0 hn HV.out).mono ?_
    rintro e w6 ⟨rfl, hb6⟩
    replace F_g := Lib.hid (F_g.out.keep hb6)
    replace F_c := Lib.hid (F_c.out.keep hb6)
    replace F_x1 := Lib.hid (F_x1.out.keep hb6)
    replace F_x2 := Lib.hid (F_x2.out.keep hb6)
    replace HBW := Lib.hid (HBW.out.trans (hb6.mono HBW.out.size))
    clear hb6
    obtain ⟨x0a, x0b, x0c, -⟩ := id F_g.out
    obtain ⟨x1a, x1b, x1c, x1d, -⟩ := id F_c.out
    obtain ⟨x2a, x2b, x2c, x2d, -⟩ := id F_x1.out
    obtain ⟨x3a, x3b, x3c, x3d, -⟩ := id F_x2.out
    go_wp2_with fail
    clear x0a x0b x0c x1a x1b x1c x1d x2a x2b x2c x2d x3a x3b x3c x3d
    refine (rverify_any _ (HT.out.keep HBW.out) hP hQ hG uy uR hS0 hn HV.out).mono ?_
    rintro e w7 ⟨rfl, hb7⟩
    replace F_g := Lib.hid (F_g.out.keep hb7)
    replace F_c := Lib.hid (F_c.out.keep hb7)
    replace F_x1 := Lib.hid (F_x1.out.keep hb7)
    replace F_x2 := Lib.hid (F_x2.out.keep hb7)
    replace HBW := Lib.hid (HBW.out.trans (hb7.mono HBW.out.size))
    clear hb7
    have hcv := conv_text (c := cp) (HT.out.keep HBW.out).sh
    obtain ⟨x0a, x0b, x0c, -⟩ := id F_g.out
    obtain ⟨x1a, x1b, x1c, x1d, -⟩ := id F_c.out
    obtain ⟨x2a, x2b, x2c, x2d, -⟩ := id F_x1.out
    obtain ⟨x3a, x3b, x3c, x3d, -⟩ := id F_x2.out
    go_wp2_with fail
    go_ret
    exact ⟨rfl, HBW.out⟩


set_option maxRecDepth 100000 in
theorem lifted (os : Os) (started : os.Started) (H : Type) (enc : TypeId × Value → H) :
    ReturnsInHanded {} Tryd.checked os 3 .any (fun w args => (Rows.schnorrSignaturesSpec.pre enc Tryd.prog Tryd.f3 [] false w args ∧ laidMetH Tryd.prog laidL w) ∧ sizedMet enc Tryd.prog Tryd.f3 (OpenSpec.ofChange Rows.schnorrSignaturesSpec) false w args) (Rows.schnorrSignaturesSpec.post enc Tryd.prog Tryd.f3 false true false false) := by
  refine returnsInHanded_of_change_and (C := Tryd.checked) (X := fun w _ => laidMetH Tryd.prog laidL w) (fun _ _ _ hh h => h.of_heap hh) own started (by kernel_rfl) Tryd.func3
    (ChangeSpec.witness_shaped (enc := enc) (C := Tryd.checked) (os := os) (X := fun w _ => laidMetH Tryd.prog laidL w) false (World.doorLaid Tryd.prog 19 os) #[.agg #[.int .u64 0, .int .u64 0, .int .u64 0], .int .u64 0, .int .u64 0, .int .u64 0, .slice none 0 0, .agg #[.int .u64 0, .int .u64 0]] 8 rfl (World.shaped_of_RefB (by kernel_rfl) (by kernel_rfl)) (by kernel_rfl) (by kernel_rfl) (by kernel_rfl) (door_met os _)) ?_
  intro W base args ds gs before hval0 hW _ _ hL _
  have hT := tabs_of_laid hL
  clear hL
  have hval : ∀ (j : Nat) t v, Tryd.f3.params[j]? = some t → args[j]? = some v → Value.okWide Tryd.prog W .any base t v := hval0
  have hW' := hW
  obtain ⟨p, q, hA0, hV, rfl, hfz, hnd⟩ := hW
  have hA : DataW.TrodAll enc Tryd.prog W 0 (fun _ => true) true Tryd.f3.params.toList args.toList ds p := hA0
  rw [Tryd.params3] at hA hval
  have hK := hA
  obtain ⟨v0, vs0, d0, ds0, p0, q0, hargs, rfl, rfl, h0, r0⟩ := trodAll_cons hA
  obtain ⟨v1, vs1, d1, ds1, p1, q1, rfl, rfl, rfl, h1, r1⟩ := trodAll_cons r0
  obtain ⟨v2, vs2, d2, ds2, p2, q2, rfl, rfl, rfl, h2, r2⟩ := trodAll_cons r1
  obtain ⟨v3, vs3, d3, ds3, p3, q3, rfl, rfl, rfl, h3, r3⟩ := trodAll_cons r2
  obtain ⟨v4, vs4, d4, ds4, p4, q4, rfl, rfl, rfl, h4, r4⟩ := trodAll_cons r3
  obtain ⟨v5, vs5, d5, ds5, p5, q5, rfl, rfl, rfl, h5, r5⟩ := trodAll_cons r4
  obtain ⟨rfl, rfl, rfl⟩ := trodAll_nil r5
  obtain rfl : args = #[v0, v1, v2, v3, v4, v5] := by cases args; simp_all
  obtain ⟨rfl, rfl⟩ := trodVars_none hV
  obtain ⟨P, Q, G, rfl, uP, uQ, uG⟩ := open_group (hval 0 24 v0 rfl rfl) h0
  obtain ⟨x, rfl, ux⟩ := open_u64 (hval 1 22 v1 rfl rfl) h1
  obtain ⟨y, rfl, uy⟩ := open_u64 (hval 2 22 v2 rfl rfl) h2
  obtain ⟨r, rfl, ur⟩ := open_u64 (hval 3 22 v3 rfl rfl) h3
  obtain ⟨tx, n, cp, T, rfl, ht, hb, hz, hnc⟩ := open_bytes (hval 4 25 v4 rfl rfl) h4
  obtain ⟨R, S, rfl, uR, uS⟩ := open_sig (hval 5 27 v5 rfl rfl) h5
  clear hA0 hval0
  refine (walk P Q G x y r tx n cp T R S W uP uQ uG ux uy ur ht hb hz hnc uR uS hT).mono fun e W' ⟨he, bel⟩ => ?_
  subst he
  exact ⟨_, rfl, _, _, _, [], _, [], hW', trodAll_mk1 (shut_bool Tryd.underlying4 _), trodAll_stays laidOut (by kernel_rfl) hK bel, rfl, bel.frame _, fun h => by cases h⟩

theorem over : Rows.schnorrSignaturesRow.holds Tryd.pinned (OpenSpec.ofChange Rows.schnorrSignaturesSpec) :=
  OpenClaim.holds_of_wide 3 Tryd.f3 rfl rfl rfl rfl rfl rfl rfl ⟨rfl, rfl, rfl, rfl, rfl⟩ rfl rfl rfl rfl rfl (by kernel_rfl) Tryd.func3 (by kernel_rfl)
    (of_decide_eq_true (by kernel_rfl)) (by unfold Func.isWrapper; first | (rw [if_pos (by decide +kernel)]; kernel_rfl) | (rw [if_neg (by decide +kernel)]; exact ⟨rfl, rfl⟩))
    (fun os started H enc _ => lifted os started H enc)

theorem proved : Rows.SchnorrSignaturesCardSaid :=
  Claim7.holds_tied_plain_at .later [] [.data, .data] true (true, "1347232924b66631dc1a67d5bf2d8748b67dbe22a221f01b9e1f88b90c98754e") false
    over (fun _ h => by cases h) (by kernel_rfl) (fun _ h => by cases h) schnorrSignatures_row_tie rfl ⟨rfl, rfl⟩ (by kernel_rfl) rfl
    (fun f fn hf hfn => by
      obtain rfl : f = 3 := Option.some.inj ((show Tryd.prog.funcNamed "suffrage/suffragelaw31.SchnorrSignatures" = some 3 by kernel_rfl).symm.trans hf) |>.symm
      obtain rfl : fn = Tryd.f3 := (Option.some.inj (Tryd.func3.symm.trans hfn)).symm
      exact ⟨by kernel_rfl, fun j t ht => by
        rw [Tryd.params3] at ht
        have hm : t ∈ ([24, 22, 22, 22, 25, 27] : List TypeId) := by simpa using Array.mem_of_getElem? ht
        have hall : (([24, 22, 22, 22, 25, 27] : List TypeId).all fun u => !Tryd.prog.wantsStandIn u) = true := by kernel_rfl
        exact (show Tryd.prog.wantsStandIn t = false by simpa using List.all_eq_true.1 hall t hm)⟩)
    (by kernel_rfl)
#print axioms proved
end Go.Proofs.YtanlnhjjdiaphaaDoor.lawSignatures
