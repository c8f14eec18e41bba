/- BoothBytes: the statement: for every input the law returns true, and the arguments read as before. -/
import Derived.Test.YtlbldpkgnonbpaaDoorByN
namespace Go.Proofs.YtlbldpkgnonbpaaDoor.lawBytes
open Go Sha Go.ChangeShapes Go.WideShapes Go.ChangeAt Go.RowKit Num
set_option linter.unusedSimpArgs false
set_option linter.unusedVariables false

theorem codeF_len {V : Vt} {er : Int} {cs : List Int} (h : codeF V = (er, cs)) : cs.length = 32 := by
  unfold codeF at h
  split at h
  · obtain ⟨-, rfl⟩ := Prod.mk.inj h; rfl
  · obtain ⟨-, rfl⟩ := Prod.mk.inj h; exact shaS_len _
theorem readF_small (xs : List Int) : (readF xs).2.1.length ≤ 10 ∧ (readF xs).2.2.1.length ≤ 10 := by
  simp only [readF]
  split
  · simp
  · split
    · simp
    · split
      · simp
      · split
        · simp
        · simp only [boxesN_len, bitsN_len]; omega
theorem Laid.arr0 {k : IntKind} {w w' : World} {b : Nat} {xs ys : List Int} (h : Laid k w w' b 0 xs) (ha : Arr k w b ys) : Arr k w' b xs :=
  ⟨fun i hi => by have := h.row i hi; rwa [Nat.zero_add] at this, fun i => (h.frozen _).trans (ha.f i), by rw [h.size]; exact ha.lt⟩
set_option maxRecDepth 100000 in
set_option maxHeartbeats 6400000 in
theorem walk (V : Vt) (tx : Option Addr) (n cp : Nat) (T : List Int) (w : World) (hV : VtIn w V) (ht : ShI .u8 w tx n T) (hb : ByteL T) (hz : tx = none → cp = 0) (hnc : n ≤ cp) (hT : Tabs w) :
    Calls Tryd.prog 3 #[V.v, .slice tx n cp] w fun e w' => e = .returned (.bool true) ∧ Below w.heap.size w w' := by
  have HV := Lib.hid hV
  have HS := Lib.hid ht
  have HUB := Lib.hid hb
  have HT := Lib.hid hT
  clear hV ht hb hT
  unfold Vt.v
  by_cases hg : greatV V = true
  case pos =>
    have F_v := Lib.hid (VBox.at w V 29 w.heap.size rfl)
    have HBW := Lib.hid (show Below w.heap.size w (w.alloc (.cells #[.slice V.a V.n V.c, .slice V.b V.m V.d, .bool V.one, .int .u64 V.z.r0, .int .u64 V.z.r1, .int .u64 V.z.s0, .int .u64 V.z.s1, .int .u64 V.z.c0, .int .u64 V.z.c1, .int .u64 V.z.z0, .int .u64 V.z.z1] 29)) from (Below.refl _ _).alloc (Nat.le_refl _) _)
    go_enter Tryd.func3, Tryd.ntmps3
    obtain ⟨-, v0, v1, v2, v3, v4, v5, v6, v7, v8, v9, v10, vf⟩ := id F_v.out
    go_wp2_with fail
    clear v0 v1 v2 v3 v4 v5 v6 v7 v8 v9 v10 vf
    refine (greatV_any (V := V) _).mono ?_
    rintro e w1 ⟨rfl, hb1⟩
    replace F_v := Lib.hid (F_v.out.keep hb1)
    replace HBW := Lib.hid (HBW.out.trans (hb1.mono HBW.out.size))
    clear hb1
    rw [hg]
    obtain ⟨-, v0, v1, v2, v3, v4, v5, v6, v7, v8, v9, v10, vf⟩ := id F_v.out
    go_wp2_with fail
    go_ret
    exact ⟨rfl, HBW.out⟩
  case neg =>
  replace hg : greatV V = false := by simpa using hg
  by_cases hl : 2000 < n
  case pos =>
    have hd : decide ((2000 : Int) < (n : Int)) = true := decide_eq_true (by omega)
    have F_v := Lib.hid (VBox.at w V 29 w.heap.size rfl)
    have HBW := Lib.hid (show Below w.heap.size w (w.alloc (.cells #[.slice V.a V.n V.c, .slice V.b V.m V.d, .bool V.one, .int .u64 V.z.r0, .int .u64 V.z.r1, .int .u64 V.z.s0, .int .u64 V.z.s1, .int .u64 V.z.c0, .int .u64 V.z.c1, .int .u64 V.z.z0, .int .u64 V.z.z1] 29)) from (Below.refl _ _).alloc (Nat.le_refl _) _)
    go_enter Tryd.func3, Tryd.ntmps3
    obtain ⟨-, v0, v1, v2, v3, v4, v5, v6, v7, v8, v9, v10, vf⟩ := id F_v.out
    go_wp2_with fail
    clear v0 v1 v2 v3 v4 v5 v6 v7 v8 v9 v10 vf
    refine (greatV_any (V := V) _).mono ?_
    rintro e w1 ⟨rfl, hb1⟩
    replace F_v := Lib.hid (F_v.out.keep hb1)
    replace HBW := Lib.hid (HBW.out.trans (hb1.mono HBW.out.size))
    clear hb1
    rw [hg]
    obtain ⟨-, v0, v1, v2, v3, v4, v5, v6, v7, v8, v9, v10, vf⟩ := id F_v.out
    go_wp2_with fail
    go_ret
    exact ⟨rfl, HBW.out⟩
  case neg =>
  have hd : decide ((2000 : Int) < (n : Int)) = false := decide_eq_false (by omega)
  have hVn : V.n ≤ 20 ∧ V.m ≤ 20 := by simp [greatV] at hg; omega
  have F_v := Lib.hid (VBox.at w V 29 w.heap.size rfl)
  have HBW := Lib.hid (show Below w.heap.size w (w.alloc (.cells #[.slice V.a V.n V.c, .slice V.b V.m V.d, .bool V.one, .int .u64 V.z.r0, .int .u64 V.z.r1, .int .u64 V.z.s0, .int .u64 V.z.s1, .int .u64 V.z.c0, .int .u64 V.z.c1, .int .u64 V.z.z0, .int .u64 V.z.z1] 29)) from (Below.refl _ _).alloc (Nat.le_refl _) _)
  go_enter Tryd.func3, Tryd.ntmps3
  obtain ⟨-, v0, v1, v2, v3, v4, v5, v6, v7, v8, v9, v10, vf⟩ := id F_v.out
  go_wp2_with fail
  clear v0 v1 v2 v3 v4 v5 v6 v7 v8 v9 v10 vf
  refine (greatV_any (V := V) _).mono ?_
  rintro e w1 ⟨rfl, hb1⟩
  replace F_v := Lib.hid (F_v.out.keep hb1)
  replace HBW := Lib.hid (HBW.out.trans (hb1.mono HBW.out.size))
  clear hb1
  rw [hg]
  have hcv := conv_text (c := cp) (HS.out.keep HBW.out)
  obtain ⟨-, v0, v1, v2, v3, v4, v5, v6, v7, v8, v9, v10, vf⟩ := id F_v.out
  go_wp2_with fail
  clear hd
  obtain ⟨er, bs, hbf⟩ : ∃ er bs, bytesF V = (er, bs) := ⟨_, _, rfl⟩
  have HBF := Lib.hid hbf
  obtain ⟨ec, cs, hcf⟩ : ∃ er bs, codeF V = (er, bs) := ⟨_, _, rfl⟩
  have HCF := Lib.hid hcf
  have HLC := Lib.hid (codeF_len hcf)
  clear hbf hcf
  clear hcv
  clear v0 v1 v2 v3 v4 v5 v6 v7 v8 v9 v10 vf
  refine (bBytes_any _ (HV.out.keep HBW.out) HBF.out).mono ?_
  rintro e w2 ⟨v2, rfl, ho2, hb2⟩
  obtain ⟨a2, c2, rfl, s2⟩ := ShI.of_owned (show w2.ownsRow _ _ 1 _ bs.length (bs.map (Value.int .u8)) from ho2)
  have F_s2 := Lib.hid s2
  clear ho2 s2
  replace F_v := Lib.hid (F_v.out.keep hb2)
  replace HBW := Lib.hid (HBW.out.trans (hb2.mono HBW.out.size))
  clear hb2
  obtain ⟨-, v0, v1, v2, v3, v4, v5, v6, v7, v8, v9, v10, vf⟩ := id F_v.out
  go_wp2_with fail
  clear v0 v1 v2 v3 v4 v5 v6 v7 v8 v9 v10 vf
  refine (rBytes36_any _ (HV.out.keep HBW.out) HBF.out).mono ?_
  rintro e w3 ⟨v3, rfl, ho3, hb3⟩
  obtain ⟨a3, c3, rfl, s3⟩ := ShI.of_owned (show w3.ownsRow _ _ 1 _ bs.length (bs.map (Value.int .u8)) from ho3)
  have F_s3 := Lib.hid s3
  clear ho3 s3
  replace F_v := Lib.hid (F_v.out.keep hb3)
  replace F_s2 := Lib.hid (F_s2.out.keep hb3)
  replace HBW := Lib.hid (HBW.out.trans (hb3.mono HBW.out.size))
  clear hb3
  obtain ⟨-, v0, v1, v2, v3, v4, v5, v6, v7, v8, v9, v10, vf⟩ := id F_v.out
  go_wp2_with fail
  clear v0 v1 v2 v3 v4 v5 v6 v7 v8 v9 v10 vf
  refine (bCode_any _ (HT.out.below HBW.out) (HV.out.keep HBW.out) HCF.out).mono ?_
  rintro e w4 ⟨rfl, hb4⟩
  replace F_v := Lib.hid (F_v.out.keep hb4)
  replace F_s2 := Lib.hid (F_s2.out.keep hb4)
  replace F_s3 := Lib.hid (F_s3.out.keep hb4)
  replace HBW := Lib.hid (HBW.out.trans (hb4.mono HBW.out.size))
  clear hb4
  obtain ⟨F_cB, hF_cB⟩ : ∃ B, w4.heap.size = B := ⟨_, rfl⟩
  obtain ⟨wo, rfl⟩ : ∃ wo, wo = w4 := ⟨_, rfl⟩
  obtain ⟨-, v0, v1, v2, v3, v4, v5, v6, v7, v8, v9, v10, vf⟩ := id F_v.out
  go_wp2_with (first
    | (refine wpL_allocArr rfl 37 .u8 32 rfl (by kernel_rfl) ?_; intro wa h1; have F_a := Lib.hid h1.arr; have HB1 := Lib.hid (h1.below _ (Nat.le_refl _)); clear h1; simp only [Act.put, List.setIfInBounds_toArray, List.set_cons_zero, List.set_cons_succ]; rw [hF_cB] at F_a HB1 ⊢)
    | (refine wpL_storeArr rfl 37 .u8 _ _ F_cB cs _ rfl rfl rfl rfl (by rw [HLC.out]; kernel_rfl) F_a.out (by rw [HLC.out]; rfl) ?_; intro w4b h9; have F_c := Lib.hid (Laid.arr0 h9 F_a.out); have HB3 := Lib.hid (show Below wo.heap.size wo w4b by rw [hF_cB]; exact HB1.out.trans (h9.below F_cB (Nat.le_refl _))); clear h9 F_a HB1 v0 v1 v2 v3 v4 v5 v6 v7 v8 v9 v10 vf; replace F_v := Lib.hid (F_v.out.keep HB3.out); replace F_s2 := Lib.hid (F_s2.out.keep HB3.out); replace F_s3 := Lib.hid (F_s3.out.keep HB3.out); replace HBW := Lib.hid (HBW.out.trans (HB3.out.mono HBW.out.size)); clear HB3 hF_cB; obtain ⟨-, v0, v1, v2, v3, v4, v5, v6, v7, v8, v9, v10, vf⟩ := id F_v.out))
  clear v0 v1 v2 v3 v4 v5 v6 v7 v8 v9 v10 vf wo
  try clear wa
  obtain ⟨-, v0, v1, v2, v3, v4, v5, v6, v7, v8, v9, v10, vf⟩ := id F_v.out
  clear v0 v1 v2 v3 v4 v5 v6 v7 v8 v9 v10 vf
  refine (rCode_any _ (HT.out.below HBW.out) (HV.out.keep HBW.out) HCF.out).mono ?_
  rintro e w5 ⟨rfl, hb5⟩
  replace F_v := Lib.hid (F_v.out.keep hb5)
  replace F_s2 := Lib.hid (F_s2.out.keep hb5)
  replace F_s3 := Lib.hid (F_s3.out.keep hb5)
  replace F_c := Lib.hid (F_c.out.keep hb5)
  replace HBW := Lib.hid (HBW.out.trans (hb5.mono HBW.out.size))
  clear hb5
  obtain ⟨F_dB, hF_dB⟩ : ∃ B, w5.heap.size = B := ⟨_, rfl⟩
  obtain ⟨wo, rfl⟩ : ∃ wo, wo = w5 := ⟨_, rfl⟩
  obtain ⟨-, v0, v1, v2, v3, v4, v5, v6, v7, v8, v9, v10, vf⟩ := id F_v.out
  go_wp2_with (first
    | (refine wpL_allocArr rfl 37 .u8 32 rfl (by kernel_rfl) ?_; intro wa h1; have F_a := Lib.hid h1.arr; have HB1 := Lib.hid (h1.below _ (Nat.le_refl _)); clear h1; simp only [Act.put, List.setIfInBounds_toArray, List.set_cons_zero, List.set_cons_succ]; rw [hF_dB] at F_a HB1 ⊢)
    | (refine wpL_storeArr rfl 37 .u8 _ _ F_dB cs _ rfl rfl rfl rfl (by rw [HLC.out]; kernel_rfl) F_a.out (by rw [HLC.out]; rfl) ?_; intro w5b h9; have F_d := Lib.hid (Laid.arr0 h9 F_a.out); have HB3 := Lib.hid (show Below wo.heap.size wo w5b by rw [hF_dB]; exact HB1.out.trans (h9.below F_dB (Nat.le_refl _))); clear h9 F_a HB1 v0 v1 v2 v3 v4 v5 v6 v7 v8 v9 v10 vf; replace F_v := Lib.hid (F_v.out.keep HB3.out); replace F_s2 := Lib.hid (F_s2.out.keep HB3.out); replace F_s3 := Lib.hid (F_s3.out.keep HB3.out); replace F_c := Lib.hid (F_c.out.keep HB3.out); replace HBW := Lib.hid (HBW.out.trans (HB3.out.mono HBW.out.size)); clear HB3 hF_dB; obtain ⟨-, v0, v1, v2, v3, v4, v5, v6, v7, v8, v9, v10, vf⟩ := id F_v.out))
  clear v0 v1 v2 v3 v4 v5 v6 v7 v8 v9 v10 vf wo
  try clear wa
  obtain ⟨-, v0, v1, v2, v3, v4, v5, v6, v7, v8, v9, v10, vf⟩ := id F_v.out
  clear v0 v1 v2 v3 v4 v5 v6 v7 v8 v9 v10 vf
  refine (bRead_any (HS.out.keep HBW.out) HUB.out hnc (by omega)).mono ?_
  rintro e w6 ⟨U, rfl, hU, U1, U2, U3, U4, hb6⟩
  replace F_v := Lib.hid (F_v.out.keep hb6)
  replace F_s2 := Lib.hid (F_s2.out.keep hb6)
  replace F_s3 := Lib.hid (F_s3.out.keep hb6)
  replace F_c := Lib.hid (F_c.out.keep hb6)
  replace F_d := Lib.hid (F_d.out.keep hb6)
  replace HBW := Lib.hid (HBW.out.trans (hb6.mono HBW.out.size))
  clear hb6
  have F_iU := Lib.hid hU
  have HU := Lib.hid (And.intro U1 (And.intro U2 (And.intro U3 U4)))
  clear hU U1 U2 U3 U4
  unfold Vt.v
  obtain ⟨-, v0, v1, v2, v3, v4, v5, v6, v7, v8, v9, v10, vf⟩ := id F_v.out
  go_wp2_with fail
  clear v0 v1 v2 v3 v4 v5 v6 v7 v8 v9 v10 vf
  replace F_v := Lib.hid (F_v.out.keep ((Below.refl _ _).alloc (Nat.le_refl _) (.cells #[.slice U.a U.n U.c, .slice U.b U.m U.d, .bool U.one, .int .u64 U.z.r0, .int .u64 U.z.r1, .int .u64 U.z.s0, .int .u64 U.z.s1, .int .u64 U.z.c0, .int .u64 U.z.c1, .int .u64 U.z.z0, .int .u64 U.z.z1] 29)))
  replace F_s2 := Lib.hid (F_s2.out.keep ((Below.refl _ _).alloc (Nat.le_refl _) (.cells #[.slice U.a U.n U.c, .slice U.b U.m U.d, .bool U.one, .int .u64 U.z.r0, .int .u64 U.z.r1, .int .u64 U.z.s0, .int .u64 U.z.s1, .int .u64 U.z.c0, .int .u64 U.z.c1, .int .u64 U.z.z0, .int .u64 U.z.z1] 29)))
  replace F_s3 := Lib.hid (F_s3.out.keep ((Below.refl _ _).alloc (Nat.le_refl _) (.cells #[.slice U.a U.n U.c, .slice U.b U.m U.d, .bool U.one, .int .u64 U.z.r0, .int .u64 U.z.r1, .int .u64 U.z.s0, .int .u64 U.z.s1, .int .u64 U.z.c0, .int .u64 U.z.c1, .int .u64 U.z.z0, .int .u64 U.z.z1] 29)))
  replace F_c := Lib.hid (F_c.out.keep ((Below.refl _ _).alloc (Nat.le_refl _) (.cells #[.slice U.a U.n U.c, .slice U.b U.m U.d, .bool U.one, .int .u64 U.z.r0, .int .u64 U.z.r1, .int .u64 U.z.s0, .int .u64 U.z.s1, .int .u64 U.z.c0, .int .u64 U.z.c1, .int .u64 U.z.z0, .int .u64 U.z.z1] 29)))
  replace F_d := Lib.hid (F_d.out.keep ((Below.refl _ _).alloc (Nat.le_refl _) (.cells #[.slice U.a U.n U.c, .slice U.b U.m U.d, .bool U.one, .int .u64 U.z.r0, .int .u64 U.z.r1, .int .u64 U.z.s0, .int .u64 U.z.s1, .int .u64 U.z.c0, .int .u64 U.z.c1, .int .u64 U.z.z0, .int .u64 U.z.z1] 29)))
  replace F_iU := Lib.hid (F_iU.out.keep ((Below.refl _ _).alloc (Nat.le_refl _) (.cells #[.slice U.a U.n U.c, .slice U.b U.m U.d, .bool U.one, .int .u64 U.z.r0, .int .u64 U.z.r1, .int .u64 U.z.s0, .int .u64 U.z.s1, .int .u64 U.z.c0, .int .u64 U.z.c1, .int .u64 U.z.z0, .int .u64 U.z.z1] 29)))
  replace HBW := Lib.hid (HBW.out.alloc HBW.out.size (.cells #[.slice U.a U.n U.c, .slice U.b U.m U.d, .bool U.one, .int .u64 U.z.r0, .int .u64 U.z.r1, .int .u64 U.z.s0, .int .u64 U.z.s1, .int .u64 U.z.c0, .int .u64 U.z.c1, .int .u64 U.z.z0, .int .u64 U.z.z1] 29))
  have F_l := Lib.hid (VBox.at w6 U 29 w6.heap.size rfl)
  refine (rRead_any (HS.out.keep HBW.out) HUB.out hnc (by omega)).mono ?_
  rintro e w7 ⟨X, rfl, hX, X1, X2, X3, X4, hb7⟩
  replace F_v := Lib.hid (F_v.out.keep hb7)
  replace F_s2 := Lib.hid (F_s2.out.keep hb7)
  replace F_s3 := Lib.hid (F_s3.out.keep hb7)
  replace F_c := Lib.hid (F_c.out.keep hb7)
  replace F_d := Lib.hid (F_d.out.keep hb7)
  replace F_iU := Lib.hid (F_iU.out.keep hb7)
  replace F_l := Lib.hid (F_l.out.keep hb7)
  replace HBW := Lib.hid (HBW.out.trans (hb7.mono HBW.out.size))
  clear hb7
  have F_iX := Lib.hid hX
  have HX := Lib.hid (And.intro X1 (And.intro X2 (And.intro X3 X4)))
  clear hX X1 X2 X3 X4
  unfold Vt.v
  obtain ⟨-, v0, v1, v2, v3, v4, v5, v6, v7, v8, v9, v10, vf⟩ := id F_v.out
  go_wp2_with fail
  clear v0 v1 v2 v3 v4 v5 v6 v7 v8 v9 v10 vf
  replace F_v := Lib.hid (F_v.out.keep ((Below.refl _ _).alloc (Nat.le_refl _) (.cells #[.slice X.a X.n X.c, .slice X.b X.m X.d, .bool X.one, .int .u64 X.z.r0, .int .u64 X.z.r1, .int .u64 X.z.s0, .int .u64 X.z.s1, .int .u64 X.z.c0, .int .u64 X.z.c1, .int .u64 X.z.z0, .int .u64 X.z.z1] 29)))
  replace F_s2 := Lib.hid (F_s2.out.keep ((Below.refl _ _).alloc (Nat.le_refl _) (.cells #[.slice X.a X.n X.c, .slice X.b X.m X.d, .bool X.one, .int .u64 X.z.r0, .int .u64 X.z.r1, .int .u64 X.z.s0, .int .u64 X.z.s1, .int .u64 X.z.c0, .int .u64 X.z.c1, .int .u64 X.z.z0, .int .u64 X.z.z1] 29)))
  replace F_s3 := Lib.hid (F_s3.out.keep ((Below.refl _ _).alloc (Nat.le_refl _) (.cells #[.slice X.a X.n X.c, .slice X.b X.m X.d, .bool X.one, .int .u64 X.z.r0, .int .u64 X.z.r1, .int .u64 X.z.s0, .int .u64 X.z.s1, .int .u64 X.z.c0, .int .u64 X.z.c1, .int .u64 X.z.z0, .int .u64 X.z.z1] 29)))
  replace F_c := Lib.hid (F_c.out.keep ((Below.refl _ _).alloc (Nat.le_refl _) (.cells #[.slice X.a X.n X.c, .slice X.b X.m X.d, .bool X.one, .int .u64 X.z.r0, .int .u64 X.z.r1, .int .u64 X.z.s0, .int .u64 X.z.s1, .int .u64 X.z.c0, .int .u64 X.z.c1, .int .u64 X.z.z0, .int .u64 X.z.z1] 29)))
  replace F_d := Lib.hid (F_d.out.keep ((Below.refl _ _).alloc (Nat.le_refl _) (.cells #[.slice X.a X.n X.c, .slice X.b X.m X.d, .bool X.one, .int .u64 X.z.r0, .int .u64 X.z.r1, .int .u64 X.z.s0, .int .u64 X.z.s1, .int .u64 X.z.c0, .int .u64 X.z.c1, .int .u64 X.z.z0, .int .u64 X.z.z1] 29)))
  replace F_iU := Lib.hid (F_iU.out.keep ((Below.refl _ _).alloc (Nat.le_refl _) (.cells #[.slice X.a X.n X.c, .slice X.b X.m X.d, .bool X.one, .int .u64 X.z.r0, .int .u64 X.z.r1, .int .u64 X.z.s0, .int .u64 X.z.s1, .int .u64 X.z.c0, .int .u64 X.z.c1, .int .u64 X.z.z0, .int .u64 X.z.z1] 29)))
  replace F_l := Lib.hid (F_l.out.keep ((Below.refl _ _).alloc (Nat.le_refl _) (.cells #[.slice X.a X.n X.c, .slice X.b X.m X.d, .bool X.one, .int .u64 X.z.r0, .int .u64 X.z.r1, .int .u64 X.z.s0, .int .u64 X.z.s1, .int .u64 X.z.c0, .int .u64 X.z.c1, .int .u64 X.z.z0, .int .u64 X.z.z1] 29)))
  replace F_iX := Lib.hid (F_iX.out.keep ((Below.refl _ _).alloc (Nat.le_refl _) (.cells #[.slice X.a X.n X.c, .slice X.b X.m X.d, .bool X.one, .int .u64 X.z.r0, .int .u64 X.z.r1, .int .u64 X.z.s0, .int .u64 X.z.s1, .int .u64 X.z.c0, .int .u64 X.z.c1, .int .u64 X.z.z0, .int .u64 X.z.z1] 29)))
  replace HBW := Lib.hid (HBW.out.alloc HBW.out.size (.cells #[.slice X.a X.n X.c, .slice X.b X.m X.d, .bool X.one, .int .u64 X.z.r0, .int .u64 X.z.r1, .int .u64 X.z.s0, .int .u64 X.z.s1, .int .u64 X.z.c0, .int .u64 X.z.c1, .int .u64 X.z.z0, .int .u64 X.z.z1] 29))
  have F_m := Lib.hid (VBox.at w7 X 29 w7.heap.size rfl)
  obtain ⟨W9, hW9⟩ : ∃ W9, w7.alloc (.cells #[.slice X.a X.n X.c, .slice X.b X.m X.d, .bool X.one, .int .u64 X.z.r0, .int .u64 X.z.r1, .int .u64 X.z.s0, .int .u64 X.z.s1, .int .u64 X.z.c0, .int .u64 X.z.c1, .int .u64 X.z.z0, .int .u64 X.z.z1] 29) = W9 := ⟨_, rfl⟩
  rw [hW9] at HBW F_v F_s2 F_s3 F_c F_d F_iU F_l F_iX F_m ⊢
  clear hW9
  have hcv1 := conv_text (c := c2) F_s2.out
  have hcv2 := conv_text (c := c3) F_s3.out
  have hcv3 := conv_text (c := cp) (HS.out.keep HBW.out)
  obtain ⟨-, x0, x1, x2, x3, x4, x5, x6, x7, x8, x9, x10, xf⟩ := id F_l.out
  obtain ⟨-, y0, y1, y2, y3, y4, y5, y6, y7, y8, y9, y10, yf⟩ := id F_m.out
  have heq := eq_code cs HLC.out
  have hlU : U.n ≤ 1000 := by rw [F_iU.out.h1.len, HU.out.1]; exact Nat.le_trans (readF_small T).1 (by decide)
  have hlM : U.m ≤ 1000 := by rw [F_iU.out.h2.len, HU.out.2.1]; exact Nat.le_trans (readF_small T).2 (by decide)
  go_wp2_with fail
  go_simp
  go_wp2_with (first
    | (refine wpL_loadArrG rfl 37 .u8 (.tmp 10) F_cB cs 32 5 rfl rfl Tryd.underlying37 (by rw [HLC.out]; kernel_rfl) F_c.out ?_)
    | (refine wpL_loadArrG rfl 37 .u8 (.tmp 12) F_dB cs 32 5 rfl rfl Tryd.underlying37 (by rw [HLC.out]; kernel_rfl) F_d.out ?_))
  clear x0 x1 x2 x3 x4 x5 x6 x7 x8 x9 x10 xf y0 y1 y2 y3 y4 y5 y6 y7 y8 y9 y10 yf heq hcv1 hcv2 hcv3
  refine (rSame_any _ F_iU.out F_iX.out (HU.out.1.trans HX.out.1.symm) (HU.out.2.1.trans HX.out.2.1.symm) (HU.out.2.2.1.trans HX.out.2.2.1.symm) (HU.out.2.2.2.trans HX.out.2.2.2.symm) hlU hlM).mono ?_
  rintro e w10 ⟨rfl, hb10⟩
  replace HBW := Lib.hid (HBW.out.trans (hb10.mono HBW.out.size))
  have hcv3 := conv_text (c := cp) (HS.out.keep HBW.out)
  go_wp2_with fail
  go_ret
  exact ⟨rfl, HBW.out⟩


set_option maxRecDepth 100000 in
theorem lifted (os : Os) (started : os.Started) (H : Type) (enc : TypeId × Value → H) :
    ReturnsInHanded {} Tryd.checked os 3 .any (fun w args => (Rows.boothBytesSpec.pre enc Tryd.prog Tryd.f3 [] false w args ∧ laidMetH Tryd.prog laidL w) ∧ sizedMet enc Tryd.prog Tryd.f3 (OpenSpec.ofChange Rows.boothBytesSpec) false w args) (Rows.boothBytesSpec.post enc Tryd.prog Tryd.f3 false true false false) := by
  refine returnsInHanded_of_change_and (C := Tryd.checked) (X := fun w _ => laidMetH Tryd.prog laidL w) (fun _ _ _ hh h => h.of_heap hh) own started (by kernel_rfl) Tryd.func3
    (ChangeSpec.witness_shaped (enc := enc) (C := Tryd.checked) (os := os) (X := fun w _ => laidMetH Tryd.prog laidL w) false (World.doorLaid Tryd.prog 19 os) #[.agg #[.slice none 0 0, .slice none 0 0, .bool false, .int .u64 0, .int .u64 0, .int .u64 0, .int .u64 0, .int .u64 0, .int .u64 0, .int .u64 0, .int .u64 0], .slice none 0 0] 8 rfl (World.shaped_of_RefB (by kernel_rfl) (by kernel_rfl)) (by kernel_rfl) (by kernel_rfl) (by kernel_rfl) (door_met os _)) ?_
  intro W base args ds gs before hval0 hW _ _ hL _
  have hT := tabs_of_laid hL
  clear hL
  have hval : ∀ (j : Nat) t v, Tryd.f3.params[j]? = some t → args[j]? = some v → Value.okWide Tryd.prog W .any base t v := hval0
  have hW' := hW
  obtain ⟨p, q, hA0, hV, rfl, hfz, hnd⟩ := hW
  have hA : DataW.TrodAll enc Tryd.prog W 0 (fun _ => true) true Tryd.f3.params.toList args.toList ds p := hA0
  rw [Tryd.params3] at hA hval
  have hK := hA
  obtain ⟨v0, vs0, d0, ds0, p0, q0, hargs, rfl, rfl, h0, r0⟩ := trodAll_cons hA
  obtain ⟨v1, vs1, d1, ds1, p1, q1, rfl, rfl, rfl, h1, r1⟩ := trodAll_cons r0
  obtain ⟨rfl, rfl, rfl⟩ := trodAll_nil r1
  obtain rfl : args = #[v0, v1] := by cases args; simp_all
  obtain ⟨rfl, rfl⟩ := trodVars_none hV
  obtain ⟨V, rfl, hV⟩ := open_vote (hval 0 29 v0 rfl rfl) h0
  obtain ⟨tx, n, cp, T, rfl, ht, hb, hz, hnc⟩ := open_bytes (hval 1 30 v1 rfl rfl) h1
  clear hA0 hval0
  refine (walk V tx n cp T W hV ht hb hz hnc hT).mono fun e W' ⟨he, bel⟩ => ?_
  subst he
  exact ⟨_, rfl, _, _, _, [], _, [], hW', trodAll_mk1 (shut_bool Tryd.underlying4 _), trodAll_stays laidOut (by kernel_rfl) hK bel, rfl, bel.frame _, fun h => by cases h⟩

theorem over : Rows.boothBytesRow.holds Tryd.pinned (OpenSpec.ofChange Rows.boothBytesSpec) :=
  OpenClaim.holds_of_wide 3 Tryd.f3 rfl rfl rfl rfl rfl rfl rfl ⟨rfl, rfl, rfl, rfl, rfl⟩ rfl rfl rfl rfl rfl (by kernel_rfl) Tryd.func3 (by kernel_rfl)
    (of_decide_eq_true (by kernel_rfl)) (by unfold Func.isWrapper; first | (rw [if_pos (by decide +kernel)]; kernel_rfl) | (rw [if_neg (by decide +kernel)]; exact ⟨rfl, rfl⟩))
    (fun os started H enc _ => lifted os started H enc)

theorem proved : Rows.BoothBytesCardSaid :=
  Claim7.holds_tied_plain_at .later [] [.data, .data] true (true, "5c00805133dfe0492bef048290696ebc112b228b3b9245def032e3bbb51dd56e") false
    over (fun _ h => by cases h) (by kernel_rfl) (fun _ h => by cases h) boothBytes_row_tie rfl ⟨rfl, rfl⟩ (by kernel_rfl) rfl
    (fun f fn hf hfn => by
      obtain rfl : f = 3 := Option.some.inj ((show Tryd.prog.funcNamed "suffrage/suffragelaw36.BoothBytes" = some 3 by kernel_rfl).symm.trans hf) |>.symm
      obtain rfl : fn = Tryd.f3 := (Option.some.inj (Tryd.func3.symm.trans hfn)).symm
      exact ⟨by kernel_rfl, fun j t ht => by
        rw [Tryd.params3] at ht
        have hm : t ∈ ([29, 30] : List TypeId) := by simpa using Array.mem_of_getElem? ht
        have hall : (([29, 30] : List TypeId).all fun u => !Tryd.prog.wantsStandIn u) = true := by kernel_rfl
        exact (show Tryd.prog.wantsStandIn t = false by simpa using List.all_eq_true.1 hall t hm)⟩)
    (by kernel_rfl)
#print axioms proved
end Go.Proofs.YtlbldpkgnonbpaaDoor.lawBytes
