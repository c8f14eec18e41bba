/- ElgamalEncrypts: the statement: for every input the law returns true, and the arguments read as before. -/
import Derived.Test.YtffefhldfnfohaaElgGen
import Derived.Test.YtffefhldfnfohaaOpenS
import Derived.Test.YtffefhldfnfohaaRows
namespace Go.Proofs.Ytffefhldfnfohaa.lawEncrypts
open Go.ChangeShapes Go.WideShapes Go.ChangeAt Go.RowKit Num
set_option linter.unusedSimpArgs false
set_option linter.unusedVariables false

set_option maxRecDepth 100000 in
set_option maxHeartbeats 6400000 in
theorem walk (P Q G y m r a b p most : Int) (w : World) (uP : U64 P) (uQ : U64 Q) (uG : U64 G) (uy : U64 y) (um : U64 m) (ur : U64 r) (ua : U64 a) (ub : U64 b) (up : U64 p) (i1 : -9223372036854775808 ≤ most) (i2 : most ≤ 9223372036854775807) :
    Calls Try.prog 5 #[.agg #[.int .u64 P, .int .u64 Q, .int .u64 G], .int .u64 y, .int .u64 m, .int .u64 r, .agg #[.int .u64 a, .int .u64 b], .int .u64 p, .int .i64 most] w fun e w' => e = .returned (.bool true) ∧ Below w.heap.size w w' := by
  have hP := uP.1
  have hQ := uQ.1
  have hG := uG.1
  have hy := uy.1
  have hm := um.1
  have hr := ur.1
  have ha := ua.1
  have hb := ub.1
  have hp := up.1
  obtain ⟨e1, e2, ec, hHE⟩ := EncS.exists P Q G y m r
  have HE := Lib.hid hHE
  clear hHE
  obtain ⟨v1, vc, hHV⟩ := ValS.exists P Q G a b
  have HV := Lib.hid hHV
  clear hHV
  obtain ⟨f1, f2, fc, hHF⟩ := RefS.exists P Q G y a b r
  have HF := Lib.hid hHF
  clear hHF
  obtain ⟨s1, sc, hHS⟩ := StripS.exists P Q G a b p
  have HS := Lib.hid hHS
  clear hHS
  obtain ⟨d1, dc, hHD⟩ := DecS.exists (P := P) (Q := Q) (G := G) (x := m) (a := a) (b := b) most
  have HD := Lib.hid hHD
  clear hHD
  have F_g := Lib.hid (show Boxed ((w.alloc (.cells #[.int .u64 P, .int .u64 Q, .int .u64 G] 24)).alloc (.cells #[.int .u64 a, .int .u64 b] 26)) (w.heap.size) P Q G from (Boxed.at _ P Q G _ (w.heap.size) (by simp)).alloc _)
  have F_c := Lib.hid (show Pair ((w.alloc (.cells #[.int .u64 P, .int .u64 Q, .int .u64 G] 24)).alloc (.cells #[.int .u64 a, .int .u64 b] 26)) (w.heap.size + 1) a b from Pair.at _ a b _ (w.heap.size + 1) (by simp))
  have HBW := Lib.hid (show Below w.heap.size w ((w.alloc (.cells #[.int .u64 P, .int .u64 Q, .int .u64 G] 24)).alloc (.cells #[.int .u64 a, .int .u64 b] 26)) from ((Below.refl _ _).alloc (by simp <;> omega) _).alloc (by simp <;> omega) _)
  go_enter Try.func5, Try.ntmps5
  obtain ⟨x0a, x0b, x0c, -⟩ := id F_g.out
  obtain ⟨x1a, x1b, x1c, x1d, -⟩ := id F_c.out
  go_wp2_with fail
  clear x0a x0b x0c x1a x1b x1c x1d
  refine (encrypt_gen _ hP hQ hG hy hm hr HE.out).mono ?_
  rintro e w1 ⟨rfl, hb1⟩
  replace F_g := Lib.hid (F_g.out.keep hb1)
  replace F_c := Lib.hid (F_c.out.keep hb1)
  replace HBW := Lib.hid (HBW.out.trans (hb1.mono HBW.out.size))
  clear hb1
  replace F_g := Lib.hid (F_g.out.alloc (.cells #[.int .u64 e1, .int .u64 e2] 26))
  replace F_c := Lib.hid (F_c.out.alloc (.cells #[.int .u64 e1, .int .u64 e2] 26))
  have F_x1 := Lib.hid (Pair.new w1 e1 e2 26)
  replace HBW := Lib.hid (HBW.out.alloc HBW.out.size (.cells #[.int .u64 e1, .int .u64 e2] 26))
  obtain ⟨x0a, x0b, x0c, -⟩ := id F_g.out
  obtain ⟨x1a, x1b, x1c, x1d, -⟩ := id F_c.out
  obtain ⟨x2a, x2b, x2c, x2d, -⟩ := id F_x1.out
  go_wp2_with fail
  clear x0a x0b x0c x1a x1b x1c x1d x2a x2b x2c x2d
  refine (rEncrypt_gen _ hP hQ hG hy hm hr HE.out).mono ?_
  rintro e w2 ⟨rfl, hb2⟩
  replace F_g := Lib.hid (F_g.out.keep hb2)
  replace F_c := Lib.hid (F_c.out.keep hb2)
  replace F_x1 := Lib.hid (F_x1.out.keep hb2)
  replace HBW := Lib.hid (HBW.out.trans (hb2.mono HBW.out.size))
  clear hb2
  replace F_g := Lib.hid (F_g.out.alloc (.cells #[.int .u64 e1, .int .u64 e2] 26))
  replace F_c := Lib.hid (F_c.out.alloc (.cells #[.int .u64 e1, .int .u64 e2] 26))
  replace F_x1 := Lib.hid (F_x1.out.alloc (.cells #[.int .u64 e1, .int .u64 e2] 26))
  have F_x2 := Lib.hid (Pair.new w2 e1 e2 26)
  replace HBW := Lib.hid (HBW.out.alloc HBW.out.size (.cells #[.int .u64 e1, .int .u64 e2] 26))
  obtain ⟨x0a, x0b, x0c, -⟩ := id F_g.out
  obtain ⟨x1a, x1b, x1c, x1d, -⟩ := id F_c.out
  obtain ⟨x2a, x2b, x2c, x2d, -⟩ := id F_x1.out
  obtain ⟨x3a, x3b, x3c, x3d, -⟩ := id F_x2.out
  go_wp2_with fail
  clear x0a x0b x0c x1a x1b x1c x1d x2a x2b x2c x2d x3a x3b x3c x3d
  refine (evalid_gen _ hP hQ hG ha hb HV.out).mono ?_
  rintro e w3 ⟨rfl, hb3⟩
  replace F_g := Lib.hid (F_g.out.keep hb3)
  replace F_c := Lib.hid (F_c.out.keep hb3)
  replace F_x1 := Lib.hid (F_x1.out.keep hb3)
  replace F_x2 := Lib.hid (F_x2.out.keep hb3)
  replace HBW := Lib.hid (HBW.out.trans (hb3.mono HBW.out.size))
  clear hb3
  obtain ⟨x0a, x0b, x0c, -⟩ := id F_g.out
  obtain ⟨x1a, x1b, x1c, x1d, -⟩ := id F_c.out
  obtain ⟨x2a, x2b, x2c, x2d, -⟩ := id F_x1.out
  obtain ⟨x3a, x3b, x3c, x3d, -⟩ := id F_x2.out
  go_wp2_with fail
  clear x0a x0b x0c x1a x1b x1c x1d x2a x2b x2c x2d x3a x3b x3c x3d
  refine (rValid_gen _ hP hQ hG ha hb HV.out).mono ?_
  rintro e w4 ⟨rfl, hb4⟩
  replace F_g := Lib.hid (F_g.out.keep hb4)
  replace F_c := Lib.hid (F_c.out.keep hb4)
  replace F_x1 := Lib.hid (F_x1.out.keep hb4)
  replace F_x2 := Lib.hid (F_x2.out.keep hb4)
  replace HBW := Lib.hid (HBW.out.trans (hb4.mono HBW.out.size))
  clear hb4
  obtain ⟨x0a, x0b, x0c, -⟩ := id F_g.out
  obtain ⟨x1a, x1b, x1c, x1d, -⟩ := id F_c.out
  obtain ⟨x2a, x2b, x2c, x2d, -⟩ := id F_x1.out
  obtain ⟨x3a, x3b, x3c, x3d, -⟩ := id F_x2.out
  go_wp2_with fail
  clear x0a x0b x0c x1a x1b x1c x1d x2a x2b x2c x2d x3a x3b x3c x3d
  refine (erefresh_gen _ hP hQ hG hy ha hb hr HF.out).mono ?_
  rintro e w5 ⟨rfl, hb5⟩
  replace F_g := Lib.hid (F_g.out.keep hb5)
  replace F_c := Lib.hid (F_c.out.keep hb5)
  replace F_x1 := Lib.hid (F_x1.out.keep hb5)
  replace F_x2 := Lib.hid (F_x2.out.keep hb5)
  replace HBW := Lib.hid (HBW.out.trans (hb5.mono HBW.out.size))
  clear hb5
  replace F_g := Lib.hid (F_g.out.alloc (.cells #[.int .u64 f1, .int .u64 f2] 26))
  replace F_c := Lib.hid (F_c.out.alloc (.cells #[.int .u64 f1, .int .u64 f2] 26))
  replace F_x1 := Lib.hid (F_x1.out.alloc (.cells #[.int .u64 f1, .int .u64 f2] 26))
  replace F_x2 := Lib.hid (F_x2.out.alloc (.cells #[.int .u64 f1, .int .u64 f2] 26))
  have F_x3 := Lib.hid (Pair.new w5 f1 f2 26)
  replace HBW := Lib.hid (HBW.out.alloc HBW.out.size (.cells #[.int .u64 f1, .int .u64 f2] 26))
  obtain ⟨x0a, x0b, x0c, -⟩ := id F_g.out
  obtain ⟨x1a, x1b, x1c, x1d, -⟩ := id F_c.out
  obtain ⟨x2a, x2b, x2c, x2d, -⟩ := id F_x1.out
  obtain ⟨x3a, x3b, x3c, x3d, -⟩ := id F_x2.out
  obtain ⟨x4a, x4b, x4c, x4d, -⟩ := id F_x3.out
  go_wp2_with fail
  clear x0a x0b x0c x1a x1b x1c x1d x2a x2b x2c x2d x3a x3b x3c x3d x4a x4b x4c x4d
  refine (rRefresh_gen _ hP hQ hG hy ha hb hr HF.out).mono ?_
  rintro e w6 ⟨rfl, hb6⟩
  replace F_g := Lib.hid (F_g.out.keep hb6)
  replace F_c := Lib.hid (F_c.out.keep hb6)
  replace F_x1 := Lib.hid (F_x1.out.keep hb6)
  replace F_x2 := Lib.hid (F_x2.out.keep hb6)
  replace F_x3 := Lib.hid (F_x3.out.keep hb6)
  replace HBW := Lib.hid (HBW.out.trans (hb6.mono HBW.out.size))
  clear hb6
  replace F_g := Lib.hid (F_g.out.alloc (.cells #[.int .u64 f1, .int .u64 f2] 26))
  replace F_c := Lib.hid (F_c.out.alloc (.cells #[.int .u64 f1, .int .u64 f2] 26))
  replace F_x1 := Lib.hid (F_x1.out.alloc (.cells #[.int .u64 f1, .int .u64 f2] 26))
  replace F_x2 := Lib.hid (F_x2.out.alloc (.cells #[.int .u64 f1, .int .u64 f2] 26))
  replace F_x3 := Lib.hid (F_x3.out.alloc (.cells #[.int .u64 f1, .int .u64 f2] 26))
  have F_x4 := Lib.hid (Pair.new w6 f1 f2 26)
  replace HBW := Lib.hid (HBW.out.alloc HBW.out.size (.cells #[.int .u64 f1, .int .u64 f2] 26))
  obtain ⟨x0a, x0b, x0c, -⟩ := id F_g.out
  obtain ⟨x1a, x1b, x1c, x1d, -⟩ := id F_c.out
  obtain ⟨x2a, x2b, x2c, x2d, -⟩ := id F_x1.out
  obtain ⟨x3a, x3b, x3c, x3d, -⟩ := id F_x2.out
  obtain ⟨x4a, x4b, x4c, x4d, -⟩ := id F_x3.out
  obtain ⟨x5a, x5b, x5c, x5d, -⟩ := id F_x4.out
  go_wp2_with fail
  clear x0a x0b x0c x1a x1b x1c x1d x2a x2b x2c x2d x3a x3b x3c x3d x4a x4b x4c x4d x5a x5b x5c x5d
  refine (estrip_gen _ hP hQ hG ha hb hp HS.out).mono ?_
  rintro e w7 ⟨rfl, hb7⟩
  replace F_g := Lib.hid (F_g.out.keep hb7)
  replace F_c := Lib.hid (F_c.out.keep hb7)
  replace F_x1 := Lib.hid (F_x1.out.keep hb7)
  replace F_x2 := Lib.hid (F_x2.out.keep hb7)
  replace F_x3 := Lib.hid (F_x3.out.keep hb7)
  replace F_x4 := Lib.hid (F_x4.out.keep hb7)
  replace HBW := Lib.hid (HBW.out.trans (hb7.mono HBW.out.size))
  clear hb7
  obtain ⟨x0a, x0b, x0c, -⟩ := id F_g.out
  obtain ⟨x1a, x1b, x1c, x1d, -⟩ := id F_c.out
  obtain ⟨x2a, x2b, x2c, x2d, -⟩ := id F_x1.out
  obtain ⟨x3a, x3b, x3c, x3d, -⟩ := id F_x2.out
  obtain ⟨x4a, x4b, x4c, x4d, -⟩ := id F_x3.out
  obtain ⟨x5a, x5b, x5c, x5d, -⟩ := id F_x4.out
  go_wp2_with fail
  clear x0a x0b x0c x1a x1b x1c x1d x2a x2b x2c x2d x3a x3b x3c x3d x4a x4b x4c x4d x5a x5b x5c x5d
  refine (rStrip_gen _ hP hQ hG ha hb hp HS.out).mono ?_
  rintro e w8 ⟨rfl, hb8⟩
  replace F_g := Lib.hid (F_g.out.keep hb8)
  replace F_c := Lib.hid (F_c.out.keep hb8)
  replace F_x1 := Lib.hid (F_x1.out.keep hb8)
  replace F_x2 := Lib.hid (F_x2.out.keep hb8)
  replace F_x3 := Lib.hid (F_x3.out.keep hb8)
  replace F_x4 := Lib.hid (F_x4.out.keep hb8)
  replace HBW := Lib.hid (HBW.out.trans (hb8.mono HBW.out.size))
  clear hb8
  obtain ⟨x0a, x0b, x0c, -⟩ := id F_g.out
  obtain ⟨x1a, x1b, x1c, x1d, -⟩ := id F_c.out
  obtain ⟨x2a, x2b, x2c, x2d, -⟩ := id F_x1.out
  obtain ⟨x3a, x3b, x3c, x3d, -⟩ := id F_x2.out
  obtain ⟨x4a, x4b, x4c, x4d, -⟩ := id F_x3.out
  obtain ⟨x5a, x5b, x5c, x5d, -⟩ := id F_x4.out
  go_wp2_with fail
  clear x0a x0b x0c x1a x1b x1c x1d x2a x2b x2c x2d x3a x3b x3c x3d x4a x4b x4c x4d x5a x5b x5c x5d
  refine (edecrypt_gen _ hP hQ hG hm ha hb HD.out).mono ?_
  rintro e w9 ⟨rfl, hb9⟩
  replace F_g := Lib.hid (F_g.out.keep hb9)
  replace F_c := Lib.hid (F_c.out.keep hb9)
  replace F_x1 := Lib.hid (F_x1.out.keep hb9)
  replace F_x2 := Lib.hid (F_x2.out.keep hb9)
  replace F_x3 := Lib.hid (F_x3.out.keep hb9)
  replace F_x4 := Lib.hid (F_x4.out.keep hb9)
  replace HBW := Lib.hid (HBW.out.trans (hb9.mono HBW.out.size))
  clear hb9
  obtain ⟨x0a, x0b, x0c, -⟩ := id F_g.out
  obtain ⟨x1a, x1b, x1c, x1d, -⟩ := id F_c.out
  obtain ⟨x2a, x2b, x2c, x2d, -⟩ := id F_x1.out
  obtain ⟨x3a, x3b, x3c, x3d, -⟩ := id F_x2.out
  obtain ⟨x4a, x4b, x4c, x4d, -⟩ := id F_x3.out
  obtain ⟨x5a, x5b, x5c, x5d, -⟩ := id F_x4.out
  go_wp2_with fail
  clear x0a x0b x0c x1a x1b x1c x1d x2a x2b x2c x2d x3a x3b x3c x3d x4a x4b x4c x4d x5a x5b x5c x5d
  refine (rDecrypt_gen _ hP hQ hG hm ha hb HD.out).mono ?_
  rintro e w10 ⟨rfl, hb10⟩
  replace F_g := Lib.hid (F_g.out.keep hb10)
  replace F_c := Lib.hid (F_c.out.keep hb10)
  replace F_x1 := Lib.hid (F_x1.out.keep hb10)
  replace F_x2 := Lib.hid (F_x2.out.keep hb10)
  replace F_x3 := Lib.hid (F_x3.out.keep hb10)
  replace F_x4 := Lib.hid (F_x4.out.keep hb10)
  replace HBW := Lib.hid (HBW.out.trans (hb10.mono HBW.out.size))
  clear hb10
  obtain ⟨x0a, x0b, x0c, -⟩ := id F_g.out
  obtain ⟨x1a, x1b, x1c, x1d, -⟩ := id F_c.out
  obtain ⟨x2a, x2b, x2c, x2d, -⟩ := id F_x1.out
  obtain ⟨x3a, x3b, x3c, x3d, -⟩ := id F_x2.out
  obtain ⟨x4a, x4b, x4c, x4d, -⟩ := id F_x3.out
  obtain ⟨x5a, x5b, x5c, x5d, -⟩ := id F_x4.out
  go_wp2_with fail
  go_ret
  exact ⟨rfl, HBW.out⟩


set_option maxRecDepth 100000 in
theorem lifted (os : Os) (started : os.Started) (H : Type) (enc : TypeId × Value → H) :
    ReturnsInHanded {} Try.checked os 5 .any (Rows.elgamalEncryptsSpec.pre6 enc Try.prog Try.f5 Rows.elgamalEncryptsRow.domain false) (Rows.elgamalEncryptsSpec.post enc Try.prog Try.f5 false true false false) := by
  refine returnsInHanded_of_change (C := Try.checked) own started (by kernel_rfl) Try.func5
    (ChangeSpec.witness6 (enc := enc) (C := Try.checked) false ⟨#[], #[.agg #[.int .u64 0, .int .u64 0, .int .u64 0], .int .u64 0, .int .u64 0, .int .u64 0, .agg #[.int .u64 0, .int .u64 0], .int .u64 0, .int .i64 0], []⟩ 8 (by kernel_rfl) (by kernel_rfl) (by kernel_rfl) (by kernel_rfl)) ?_
  intro W base args ds gs before hval0 hW _ _
  have hval : ∀ (j : Nat) t v, Try.f5.params[j]? = some t → args[j]? = some v → Value.okWide Try.prog W .any base t v := hval0
  have hW' := hW
  obtain ⟨p, q, hA0, hV, rfl, hfz, hnd⟩ := hW
  have hA : DataW.TrodAll enc Try.prog W 0 (fun _ => true) true Try.f5.params.toList args.toList ds p := hA0
  rw [Try.params5] at hA hval
  have hK := hA
  obtain ⟨v0, vs0, d0, ds0, p0, q0, hargs, rfl, rfl, h0, r0⟩ := trodAll_cons hA
  obtain ⟨v1, vs1, d1, ds1, p1, q1, rfl, rfl, rfl, h1, r1⟩ := trodAll_cons r0
  obtain ⟨v2, vs2, d2, ds2, p2, q2, rfl, rfl, rfl, h2, r2⟩ := trodAll_cons r1
  obtain ⟨v3, vs3, d3, ds3, p3, q3, rfl, rfl, rfl, h3, r3⟩ := trodAll_cons r2
  obtain ⟨v4, vs4, d4, ds4, p4, q4, rfl, rfl, rfl, h4, r4⟩ := trodAll_cons r3
  obtain ⟨v5, vs5, d5, ds5, p5, q5, rfl, rfl, rfl, h5, r5⟩ := trodAll_cons r4
  obtain ⟨v6, vs6, d6, ds6, p6, q6, rfl, rfl, rfl, h6, r6⟩ := trodAll_cons r5
  obtain ⟨rfl, rfl, rfl⟩ := trodAll_nil r6
  obtain rfl : args = #[v0, v1, v2, v3, v4, v5, v6] := by cases args; simp_all
  obtain ⟨rfl, rfl⟩ := trodVars_none hV
  obtain ⟨P, Q, G, rfl, uP, uQ, uG⟩ := open_group (hval 0 24 v0 rfl rfl) h0
  obtain ⟨y, rfl, uy⟩ := open_u64 (hval 1 22 v1 rfl rfl) h1
  obtain ⟨m, rfl, um⟩ := open_u64 (hval 2 22 v2 rfl rfl) h2
  obtain ⟨r, rfl, ur⟩ := open_u64 (hval 3 22 v3 rfl rfl) h3
  obtain ⟨a, b, rfl, ua, ub⟩ := open_sealed (hval 4 26 v4 rfl rfl) h4
  obtain ⟨p, rfl, up⟩ := open_u64 (hval 5 22 v5 rfl rfl) h5
  obtain ⟨most, rfl, i1, i2⟩ := open_i64 (hval 6 3 v6 rfl rfl) h6
  clear hA0 hval0
  refine (walk P Q G y m r a b p most W uP uQ uG uy um ur ua ub up i1 i2).mono fun e W' ⟨he, bel⟩ => ?_
  subst he
  exact ⟨_, rfl, _, _, _, [], _, [], hW', trodAll_mk1 (shut_bool Try.underlying4 _), trodAll_stays laidOut (by kernel_rfl) hK bel, rfl, bel.frame _, fun h => by cases h⟩

theorem over : Rows.elgamalEncryptsRow.holds Try.pinned (OpenSpec.ofChange Rows.elgamalEncryptsSpec) :=
  OpenClaim.holds_of_wide 5 Try.f5 rfl rfl rfl rfl rfl rfl rfl ⟨rfl, rfl, rfl, rfl, rfl⟩ rfl rfl rfl rfl rfl (by kernel_rfl) Try.func5 (by kernel_rfl)
    (of_decide_eq_true (by kernel_rfl)) (by unfold Func.isWrapper; first | (rw [if_pos (by decide +kernel)]; kernel_rfl) | (rw [if_neg (by decide +kernel)]; exact ⟨rfl, rfl⟩))
    (fun os started H enc _ => lifted os started H enc)

theorem proved : Rows.ElgamalEncryptsSaid := over
#print axioms proved
end Go.Proofs.Ytffefhldfnfohaa.lawEncrypts
