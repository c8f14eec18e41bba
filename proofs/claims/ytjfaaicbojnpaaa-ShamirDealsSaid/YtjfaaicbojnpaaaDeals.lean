/- ShamirDeals: the statement: for every input the law returns true, and the arguments read as before. -/
import Derived.Test.YtjfaaicbojnpaaaShLaw
import Derived.Test.YtjfaaicbojnpaaaRows
namespace Go.Proofs.Ytjfaaicbojnpaaa.lawDeals
open Go.ChangeShapes Go.WideShapes Go.ChangeAt Go.RowKit Num
set_option linter.unusedSimpArgs false
set_option linter.unusedVariables false

set_option maxRecDepth 100000 in
set_option maxHeartbeats 12800000 in
theorem walk (P Q G : Int) (a : Option Addr) (n c : Nat) (xs : List Int) (b : Option Addr) (m d : Nat) (ys : List Int) (i j s : Int) (w : World) (uP : U64 P) (uQ : U64 Q) (uG : U64 G) (hS1 : ShI .u64 w a n xs) (hx1 : ∀ x, x ∈ xs → U64 x) (hc1 : a = none → c = 0) (hd1 : n ≤ c) (hS2 : ShI .u64 w b m ys) (hx2 : ∀ x, x ∈ ys → U64 x) (hc2 : b = none → d = 0) (hd2 : m ≤ d) (il : -9223372036854775808 ≤ i) (iu : i ≤ 9223372036854775807) (jl : -9223372036854775808 ≤ j) (ju : j ≤ 9223372036854775807) (us : U64 s) :
    Calls Try.prog 4 #[.agg #[.int .u64 P, .int .u64 Q, .int .u64 G], .slice a n c, .slice b m d, .int .i64 i, .int .i64 j, .int .u64 s] w fun e w' => e = .returned (.bool true) ∧ Below w.heap.size w w' := by
  have hP := uP.1
  have hQ := uQ.1
  have hG := uG.1
  have HS1 := Lib.hid hS1
  have HS2 := Lib.hid hS2
  have HX1 := Lib.hid hx1
  have HX2 := Lib.hid hx2
  obtain ⟨v, er, hv⟩ : ∃ v er, valueS P Q G i xs = (v, er) := ⟨_, _, rfl⟩
  obtain ⟨ed, ps, ss, hd⟩ : ∃ ed ps ss, splitS P Q G j xs = (ed, ps, ss) := ⟨_, _, _, rfl⟩
  obtain ⟨k, ek, hk⟩ : ∃ k ek, keyS P Q G i ys = (k, ek) := ⟨_, _, rfl⟩
  obtain ⟨f, ef, hf⟩ : ∃ f ef, verifyS P Q G i s ys = (f, ef) := ⟨_, _, rfl⟩
  obtain ⟨hl1, hl2⟩ := splitS_len P Q G j xs hd
  have HV := Lib.hid hv
  have HD := Lib.hid hd
  have HK := Lib.hid hk
  have HVF := Lib.hid hf
  clear hS1 hS2 hx1 hx2 hv hd hk hf
  by_cases g1 : 100 < n
  case pos =>
    have HG1 := Lib.hid (show decide (100 < n) = true by simpa using g1)
    clear g1
    have F_g := Lib.hid (show Boxed (w.alloc (.cells #[.int .u64 P, .int .u64 Q, .int .u64 G] 24)) (w.heap.size) P Q G from Boxed.at _ P Q G _ (w.heap.size) (by simp))
    have HBW := Lib.hid (show Below w.heap.size w (w.alloc (.cells #[.int .u64 P, .int .u64 Q, .int .u64 G] 24)) from (Below.refl _ _).alloc (by simp <;> omega) _)
    go_enter Try.func4, Try.ntmps4
    obtain ⟨x0a, x0b, x0c, -⟩ := id F_g.out
    go_wp2_with fail
    clear x0a x0b x0c
    refine (rgreat34_any _ HG1.out).mono ?_
    rintro e w1 ⟨rfl, rfl⟩
    obtain ⟨x0a, x0b, x0c, -⟩ := id F_g.out
    go_wp2_with fail
    go_ret
    exact ⟨rfl, HBW.out⟩
  case neg =>
    have HG1 := Lib.hid (show decide (100 < n) = false by simpa using g1)
    by_cases g2 : 100 < m
    case pos =>
      have HG2 := Lib.hid (show decide (100 < m) = true by simpa using g2)
      clear g2
      have F_g := Lib.hid (show Boxed (w.alloc (.cells #[.int .u64 P, .int .u64 Q, .int .u64 G] 24)) (w.heap.size) P Q G from Boxed.at _ P Q G _ (w.heap.size) (by simp))
      have HBW := Lib.hid (show Below w.heap.size w (w.alloc (.cells #[.int .u64 P, .int .u64 Q, .int .u64 G] 24)) from (Below.refl _ _).alloc (by simp <;> omega) _)
      go_enter Try.func4, Try.ntmps4
      obtain ⟨x0a, x0b, x0c, -⟩ := id F_g.out
      go_wp2_with fail
      clear x0a x0b x0c
      refine (rgreat34_any _ HG1.out).mono ?_
      rintro e w1 ⟨rfl, rfl⟩
      obtain ⟨x0a, x0b, x0c, -⟩ := id F_g.out
      go_wp2_with fail
      clear x0a x0b x0c
      refine (rgreat34_any _ HG2.out).mono ?_
      rintro e w2 ⟨rfl, rfl⟩
      obtain ⟨x0a, x0b, x0c, -⟩ := id F_g.out
      go_wp2_with fail
      go_ret
      exact ⟨rfl, HBW.out⟩
    case neg =>
      have HG2 := Lib.hid (show decide (100 < m) = false by simpa using g2)
      have F_g := Lib.hid (show Boxed (w.alloc (.cells #[.int .u64 P, .int .u64 Q, .int .u64 G] 24)) (w.heap.size) P Q G from Boxed.at _ P Q G _ (w.heap.size) (by simp))
      have HBW := Lib.hid (show Below w.heap.size w (w.alloc (.cells #[.int .u64 P, .int .u64 Q, .int .u64 G] 24)) from (Below.refl _ _).alloc (by simp <;> omega) _)
      go_enter Try.func4, Try.ntmps4
      obtain ⟨x0a, x0b, x0c, -⟩ := id F_g.out
      go_wp2_with fail
      clear x0a x0b x0c
      refine (rgreat34_any _ HG1.out).mono ?_
      rintro e w1 ⟨rfl, rfl⟩
      obtain ⟨x0a, x0b, x0c, -⟩ := id F_g.out
      go_wp2_with fail
      clear x0a x0b x0c
      refine (rgreat34_any _ HG2.out).mono ?_
      rintro e w2 ⟨rfl, rfl⟩
      obtain ⟨x0a, x0b, x0c, -⟩ := id F_g.out
      go_wp2_with fail
      clear x0a x0b x0c
      refine (rtwin64_any _ (HS1.out.keep HBW.out) hc1 (by omega)).mono ?_
      rintro e w3 ⟨o1a, o1c, rfl, hO, hb3⟩
      replace F_g := Lib.hid (F_g.out.keep hb3)
      replace HBW := Lib.hid (HBW.out.trans (hb3.mono HBW.out.size))
      clear hb3
      have F_o := Lib.hid hO
      clear hO
      obtain ⟨x0a, x0b, x0c, -⟩ := id F_g.out
      go_wp2_with fail
      clear x0a x0b x0c
      refine (rtwin64_any _ (HS2.out.keep HBW.out) hc2 (by omega)).mono ?_
      rintro e w4 ⟨o2a, o2c, rfl, hO, hb4⟩
      replace F_g := Lib.hid (F_g.out.keep hb4)
      replace F_o := Lib.hid (F_o.out.keep hb4)
      replace HBW := Lib.hid (HBW.out.trans (hb4.mono HBW.out.size))
      clear hb4
      have F_u := Lib.hid hO
      clear hO
      obtain ⟨x0a, x0b, x0c, -⟩ := id F_g.out
      go_wp2_with fail
      clear x0a x0b x0c
      refine (sValue_any _ hP hQ hG il iu F_o.out (by omega) HX1.out HV.out).mono ?_
      rintro e w5 ⟨rfl, hb5⟩
      replace F_g := Lib.hid (F_g.out.keep hb5)
      replace F_o := Lib.hid (F_o.out.keep hb5)
      replace F_u := Lib.hid (F_u.out.keep hb5)
      replace HBW := Lib.hid (HBW.out.trans (hb5.mono HBW.out.size))
      clear hb5
      obtain ⟨x0a, x0b, x0c, -⟩ := id F_g.out
      go_wp2_with fail
      clear x0a x0b x0c
      refine (rValue_any _ hP hQ hG il iu (HS1.out.keep HBW.out) (by omega) HX1.out HV.out).mono ?_
      rintro e w6 ⟨rfl, hb6⟩
      replace F_g := Lib.hid (F_g.out.keep hb6)
      replace F_o := Lib.hid (F_o.out.keep hb6)
      replace F_u := Lib.hid (F_u.out.keep hb6)
      replace HBW := Lib.hid (HBW.out.trans (hb6.mono HBW.out.size))
      clear hb6
      obtain ⟨x0a, x0b, x0c, -⟩ := id F_g.out
      go_wp2_with fail
      clear x0a x0b x0c
      refine (sSplit_any _ hP hQ hG jl ju F_o.out (by omega) HX1.out HD.out).mono ?_
      rintro e w7 ⟨v1, v2, rfl, ho1, ho2, hb7⟩
      replace F_g := Lib.hid (F_g.out.keep hb7)
      replace F_o := Lib.hid (F_o.out.keep hb7)
      replace F_u := Lib.hid (F_u.out.keep hb7)
      replace HBW := Lib.hid (HBW.out.trans (hb7.mono HBW.out.size))
      clear hb7
      obtain ⟨b1, e1, rfl, hs1⟩ := ho1.shI
      obtain ⟨b2, e2, rfl, hs2⟩ := ho2.shI
      have F_a := Lib.hid hs1
      have F_b := Lib.hid hs2
      clear ho1 ho2 hs1 hs2
      replace F_g := Lib.hid (F_g.out.alloc (.cells #[.slice b1 ps.length e1, .slice b2 ss.length e2] 27))
      replace F_o := Lib.hid (F_o.out.alloc (.cells #[.slice b1 ps.length e1, .slice b2 ss.length e2] 27))
      replace F_u := Lib.hid (F_u.out.alloc (.cells #[.slice b1 ps.length e1, .slice b2 ss.length e2] 27))
      replace F_a := Lib.hid (F_a.out.alloc (.cells #[.slice b1 ps.length e1, .slice b2 ss.length e2] 27))
      replace F_b := Lib.hid (F_b.out.alloc (.cells #[.slice b1 ps.length e1, .slice b2 ss.length e2] 27))
      have F_x := Lib.hid (DealBox.at w7 (.slice b1 ps.length e1) (.slice b2 ss.length e2) 27 _ rfl)
      replace HBW := Lib.hid (HBW.out.alloc HBW.out.size (.cells #[.slice b1 ps.length e1, .slice b2 ss.length e2] 27))
      obtain ⟨x0a, x0b, x0c, -⟩ := id F_g.out
      obtain ⟨x5a, x5b, x5c, x5d, -⟩ := id F_x.out
      go_wp2_with fail
      clear x0a x0b x0c x5a x5b x5c x5d
      refine (rSplit_any _ hP hQ hG jl ju (HS1.out.keep HBW.out) (by omega) HX1.out HD.out).mono ?_
      rintro e w8 ⟨v1, v2, rfl, ho1, ho2, hb8⟩
      replace F_g := Lib.hid (F_g.out.keep hb8)
      replace F_o := Lib.hid (F_o.out.keep hb8)
      replace F_u := Lib.hid (F_u.out.keep hb8)
      replace F_a := Lib.hid (F_a.out.keep hb8)
      replace F_b := Lib.hid (F_b.out.keep hb8)
      replace F_x := Lib.hid (F_x.out.keep hb8)
      replace HBW := Lib.hid (HBW.out.trans (hb8.mono HBW.out.size))
      clear hb8
      obtain ⟨b3, e3, rfl, hs1⟩ := ho1.shI
      obtain ⟨b4, e4, rfl, hs2⟩ := ho2.shI
      have F_c := Lib.hid hs1
      have F_d := Lib.hid hs2
      clear ho1 ho2 hs1 hs2
      replace F_g := Lib.hid (F_g.out.alloc (.cells #[.slice b3 ps.length e3, .slice b4 ss.length e4] 27))
      replace F_o := Lib.hid (F_o.out.alloc (.cells #[.slice b3 ps.length e3, .slice b4 ss.length e4] 27))
      replace F_u := Lib.hid (F_u.out.alloc (.cells #[.slice b3 ps.length e3, .slice b4 ss.length e4] 27))
      replace F_a := Lib.hid (F_a.out.alloc (.cells #[.slice b3 ps.length e3, .slice b4 ss.length e4] 27))
      replace F_b := Lib.hid (F_b.out.alloc (.cells #[.slice b3 ps.length e3, .slice b4 ss.length e4] 27))
      replace F_x := Lib.hid (F_x.out.alloc (.cells #[.slice b3 ps.length e3, .slice b4 ss.length e4] 27))
      replace F_c := Lib.hid (F_c.out.alloc (.cells #[.slice b3 ps.length e3, .slice b4 ss.length e4] 27))
      replace F_d := Lib.hid (F_d.out.alloc (.cells #[.slice b3 ps.length e3, .slice b4 ss.length e4] 27))
      have F_y := Lib.hid (DealBox.at w8 (.slice b3 ps.length e3) (.slice b4 ss.length e4) 27 _ rfl)
      replace HBW := Lib.hid (HBW.out.alloc HBW.out.size (.cells #[.slice b3 ps.length e3, .slice b4 ss.length e4] 27))
      obtain ⟨x0a, x0b, x0c, -⟩ := id F_g.out
      obtain ⟨x5a, x5b, x5c, x5d, -⟩ := id F_x.out
      obtain ⟨x8a, x8b, x8c, x8d, -⟩ := id F_y.out
      go_wp2_with fail
      clear x0a x0b x0c x5a x5b x5c x5d x8a x8b x8c x8d
      refine (sKey_any _ hP hQ hG il iu F_u.out (by omega) HX2.out HK.out).mono ?_
      rintro e w9 ⟨rfl, hb9⟩
      replace F_g := Lib.hid (F_g.out.keep hb9)
      replace F_o := Lib.hid (F_o.out.keep hb9)
      replace F_u := Lib.hid (F_u.out.keep hb9)
      replace F_a := Lib.hid (F_a.out.keep hb9)
      replace F_b := Lib.hid (F_b.out.keep hb9)
      replace F_x := Lib.hid (F_x.out.keep hb9)
      replace F_c := Lib.hid (F_c.out.keep hb9)
      replace F_d := Lib.hid (F_d.out.keep hb9)
      replace F_y := Lib.hid (F_y.out.keep hb9)
      replace HBW := Lib.hid (HBW.out.trans (hb9.mono HBW.out.size))
      clear hb9
      obtain ⟨x0a, x0b, x0c, -⟩ := id F_g.out
      obtain ⟨x5a, x5b, x5c, x5d, -⟩ := id F_x.out
      obtain ⟨x8a, x8b, x8c, x8d, -⟩ := id F_y.out
      go_wp2_with fail
      clear x0a x0b x0c x5a x5b x5c x5d x8a x8b x8c x8d
      refine (rKey_any _ hP hQ hG il iu (HS2.out.keep HBW.out) (by omega) HX2.out HK.out).mono ?_
      rintro e w10 ⟨rfl, hb10⟩
      replace F_g := Lib.hid (F_g.out.keep hb10)
      replace F_o := Lib.hid (F_o.out.keep hb10)
      replace F_u := Lib.hid (F_u.out.keep hb10)
      replace F_a := Lib.hid (F_a.out.keep hb10)
      replace F_b := Lib.hid (F_b.out.keep hb10)
      replace F_x := Lib.hid (F_x.out.keep hb10)
      replace F_c := Lib.hid (F_c.out.keep hb10)
      replace F_d := Lib.hid (F_d.out.keep hb10)
      replace F_y := Lib.hid (F_y.out.keep hb10)
      replace HBW := Lib.hid (HBW.out.trans (hb10.mono HBW.out.size))
      clear hb10
      obtain ⟨x0a, x0b, x0c, -⟩ := id F_g.out
      obtain ⟨x5a, x5b, x5c, x5d, -⟩ := id F_x.out
      obtain ⟨x8a, x8b, x8c, x8d, -⟩ := id F_y.out
      go_wp2_with fail
      clear x0a x0b x0c x5a x5b x5c x5d x8a x8b x8c x8d
      refine (sVerify_any _ hP hQ hG us il iu F_u.out (by omega) HX2.out HVF.out).mono ?_
      rintro e w11 ⟨rfl, hb11⟩
      replace F_g := Lib.hid (F_g.out.keep hb11)
      replace F_o := Lib.hid (F_o.out.keep hb11)
      replace F_u := Lib.hid (F_u.out.keep hb11)
      replace F_a := Lib.hid (F_a.out.keep hb11)
      replace F_b := Lib.hid (F_b.out.keep hb11)
      replace F_x := Lib.hid (F_x.out.keep hb11)
      replace F_c := Lib.hid (F_c.out.keep hb11)
      replace F_d := Lib.hid (F_d.out.keep hb11)
      replace F_y := Lib.hid (F_y.out.keep hb11)
      replace HBW := Lib.hid (HBW.out.trans (hb11.mono HBW.out.size))
      clear hb11
      obtain ⟨x0a, x0b, x0c, -⟩ := id F_g.out
      obtain ⟨x5a, x5b, x5c, x5d, -⟩ := id F_x.out
      obtain ⟨x8a, x8b, x8c, x8d, -⟩ := id F_y.out
      go_wp2_with fail
      clear x0a x0b x0c x5a x5b x5c x5d x8a x8b x8c x8d
      refine (rVerify_any _ hP hQ hG us il iu (HS2.out.keep HBW.out) (by omega) HX2.out HVF.out).mono ?_
      rintro e w12 ⟨rfl, hb12⟩
      replace F_g := Lib.hid (F_g.out.keep hb12)
      replace F_o := Lib.hid (F_o.out.keep hb12)
      replace F_u := Lib.hid (F_u.out.keep hb12)
      replace F_a := Lib.hid (F_a.out.keep hb12)
      replace F_b := Lib.hid (F_b.out.keep hb12)
      replace F_x := Lib.hid (F_x.out.keep hb12)
      replace F_c := Lib.hid (F_c.out.keep hb12)
      replace F_d := Lib.hid (F_d.out.keep hb12)
      replace F_y := Lib.hid (F_y.out.keep hb12)
      replace HBW := Lib.hid (HBW.out.trans (hb12.mono HBW.out.size))
      clear hb12
      obtain ⟨x0a, x0b, x0c, -⟩ := id F_g.out
      obtain ⟨x5a, x5b, x5c, x5d, -⟩ := id F_x.out
      obtain ⟨x8a, x8b, x8c, x8d, -⟩ := id F_y.out
      go_wp2_with fail
      clear x0a x0b x0c x5a x5b x5c x5d x8a x8b x8c x8d
      refine (rsame64_any _ F_o.out (HS1.out.keep HBW.out) (by omega)).mono ?_
      rintro e w13 ⟨rfl, hb13⟩
      replace F_g := Lib.hid (F_g.out.keep hb13)
      replace F_o := Lib.hid (F_o.out.keep hb13)
      replace F_u := Lib.hid (F_u.out.keep hb13)
      replace F_a := Lib.hid (F_a.out.keep hb13)
      replace F_b := Lib.hid (F_b.out.keep hb13)
      replace F_x := Lib.hid (F_x.out.keep hb13)
      replace F_c := Lib.hid (F_c.out.keep hb13)
      replace F_d := Lib.hid (F_d.out.keep hb13)
      replace F_y := Lib.hid (F_y.out.keep hb13)
      replace HBW := Lib.hid (HBW.out.trans (hb13.mono HBW.out.size))
      clear hb13
      obtain ⟨x0a, x0b, x0c, -⟩ := id F_g.out
      obtain ⟨x5a, x5b, x5c, x5d, -⟩ := id F_x.out
      obtain ⟨x8a, x8b, x8c, x8d, -⟩ := id F_y.out
      go_wp2_with fail
      clear x0a x0b x0c x5a x5b x5c x5d x8a x8b x8c x8d
      refine (rsame64_any _ F_u.out (HS2.out.keep HBW.out) (by omega)).mono ?_
      rintro e w14 ⟨rfl, hb14⟩
      replace F_g := Lib.hid (F_g.out.keep hb14)
      replace F_o := Lib.hid (F_o.out.keep hb14)
      replace F_u := Lib.hid (F_u.out.keep hb14)
      replace F_a := Lib.hid (F_a.out.keep hb14)
      replace F_b := Lib.hid (F_b.out.keep hb14)
      replace F_x := Lib.hid (F_x.out.keep hb14)
      replace F_c := Lib.hid (F_c.out.keep hb14)
      replace F_d := Lib.hid (F_d.out.keep hb14)
      replace F_y := Lib.hid (F_y.out.keep hb14)
      replace HBW := Lib.hid (HBW.out.trans (hb14.mono HBW.out.size))
      clear hb14
      obtain ⟨x0a, x0b, x0c, -⟩ := id F_g.out
      obtain ⟨x5a, x5b, x5c, x5d, -⟩ := id F_x.out
      obtain ⟨x8a, x8b, x8c, x8d, -⟩ := id F_y.out
      go_wp2_with fail
      clear x0a x0b x0c x5a x5b x5c x5d x8a x8b x8c x8d
      refine (rsame34_any _ F_a.out F_c.out F_b.out F_d.out (by omega) (by omega)).mono ?_
      rintro e w15 ⟨rfl, hb15⟩
      replace F_g := Lib.hid (F_g.out.keep hb15)
      replace F_o := Lib.hid (F_o.out.keep hb15)
      replace F_u := Lib.hid (F_u.out.keep hb15)
      replace F_a := Lib.hid (F_a.out.keep hb15)
      replace F_b := Lib.hid (F_b.out.keep hb15)
      replace F_x := Lib.hid (F_x.out.keep hb15)
      replace F_c := Lib.hid (F_c.out.keep hb15)
      replace F_d := Lib.hid (F_d.out.keep hb15)
      replace F_y := Lib.hid (F_y.out.keep hb15)
      replace HBW := Lib.hid (HBW.out.trans (hb15.mono HBW.out.size))
      clear hb15
      obtain ⟨x0a, x0b, x0c, -⟩ := id F_g.out
      obtain ⟨x5a, x5b, x5c, x5d, -⟩ := id F_x.out
      obtain ⟨x8a, x8b, x8c, x8d, -⟩ := id F_y.out
      go_wp2_with fail
      go_ret
      exact ⟨rfl, HBW.out⟩


set_option maxRecDepth 100000 in
theorem lifted (os : Os) (started : os.Started) (H : Type) (enc : TypeId × Value → H) :
    ReturnsInHanded {} Try.checked os 4 .any (Rows.shamirDealsSpec.pre6 enc Try.prog Try.f4 Rows.shamirDealsRow.domain false) (Rows.shamirDealsSpec.post enc Try.prog Try.f4 false true false false) := by
  refine returnsInHanded_of_change (C := Try.checked) own started (by kernel_rfl) Try.func4
    (ChangeSpec.witness6 (enc := enc) (C := Try.checked) false ⟨#[], #[.agg #[.int .u64 0, .int .u64 0, .int .u64 0], .slice none 0 0, .slice none 0 0, .int .i64 0, .int .i64 0, .int .u64 0], []⟩ 8 (by kernel_rfl) (by kernel_rfl) (by kernel_rfl) (by kernel_rfl)) ?_
  intro W base args ds gs before hval0 hW _ _
  have hval : ∀ (j : Nat) t v, Try.f4.params[j]? = some t → args[j]? = some v → Value.okWide Try.prog W .any base t v := hval0
  have hW' := hW
  obtain ⟨p, q, hA0, hV, rfl, hfz, hnd⟩ := hW
  have hA : DataW.TrodAll enc Try.prog W 0 (fun _ => true) true Try.f4.params.toList args.toList ds p := hA0
  rw [Try.params4] at hA hval
  have hK := hA
  obtain ⟨v0, vs0, d0, ds0, p0, q0, hargs, rfl, rfl, h0, r0⟩ := trodAll_cons hA
  obtain ⟨v1, vs1, d1, ds1, p1, q1, rfl, rfl, rfl, h1, r1⟩ := trodAll_cons r0
  obtain ⟨v2, vs2, d2, ds2, p2, q2, rfl, rfl, rfl, h2, r2⟩ := trodAll_cons r1
  obtain ⟨v3, vs3, d3, ds3, p3, q3, rfl, rfl, rfl, h3, r3⟩ := trodAll_cons r2
  obtain ⟨v4, vs4, d4, ds4, p4, q4, rfl, rfl, rfl, h4, r4⟩ := trodAll_cons r3
  obtain ⟨v5, vs5, d5, ds5, p5, q5, rfl, rfl, rfl, h5, r5⟩ := trodAll_cons r4
  obtain ⟨rfl, rfl, rfl⟩ := trodAll_nil r5
  obtain rfl : args = #[v0, v1, v2, v3, v4, v5] := by cases args; simp_all
  obtain ⟨rfl, rfl⟩ := trodVars_none hV
  obtain ⟨P, Q, G, rfl, uP, uQ, uG⟩ := open_group (hval 0 24 v0 rfl rfl) h0
  obtain ⟨a, n, c, xs, rfl, hS1, hx1, hc1, hd1⟩ := open_u64s (hval 1 25 v1 rfl rfl) h1
  obtain ⟨b, m, d, ys, rfl, hS2, hx2, hc2, hd2⟩ := open_u64s (hval 2 25 v2 rfl rfl) h2
  obtain ⟨i, rfl, il, iu⟩ := open_i64 (hval 3 3 v3 rfl rfl) h3
  obtain ⟨j, rfl, jl, ju⟩ := open_i64 (hval 4 3 v4 rfl rfl) h4
  obtain ⟨s, rfl, us⟩ := open_u64 (hval 5 22 v5 rfl rfl) h5
  clear hA0 hval0
  refine (walk P Q G a n c xs b m d ys i j s W uP uQ uG hS1 hx1 hc1 hd1 hS2 hx2 hc2 hd2 il iu jl ju us).mono fun e W' ⟨he, bel⟩ => ?_
  subst he
  exact ⟨_, rfl, _, _, _, [], _, [], hW', trodAll_mk1 (shut_bool Try.underlying4 _), trodAll_stays laidOut (by kernel_rfl) hK bel, rfl, bel.frame _, fun h => by cases h⟩

theorem over : Rows.shamirDealsRow.holds Try.pinned (OpenSpec.ofChange Rows.shamirDealsSpec) :=
  OpenClaim.holds_of_wide 4 Try.f4 rfl rfl rfl rfl rfl rfl rfl ⟨rfl, rfl, rfl, rfl, rfl⟩ rfl rfl rfl rfl rfl (by kernel_rfl) Try.func4 (by kernel_rfl)
    (of_decide_eq_true (by kernel_rfl)) (by unfold Func.isWrapper; first | (rw [if_pos (by decide +kernel)]; kernel_rfl) | (rw [if_neg (by decide +kernel)]; exact ⟨rfl, rfl⟩))
    (fun os started H enc _ => lifted os started H enc)

theorem proved : Rows.ShamirDealsSaid := over
#print axioms proved
end Go.Proofs.Ytjfaaicbojnpaaa.lawDeals
