/- BoothSteps: the statement: for every input the law returns true, and the arguments read as before. -/
import Derived.Test.YtlbldpkgnonbpaaGreatDoorQs7
import Derived.Test.YtlbldpkgnonbpaaGreatDoorQsS
import Derived.Deep.DeepHandedRow
import Derived.Deep.DeepWitnessRowRef
set_option linter.unusedSimpArgs false
set_option linter.unusedVariables false
set_option maxRecDepth 100000
namespace Go.Proofs.YtlbldpkgnonbpaaGreatDoor.lawSteps
open Go Sha Go.ChangeShapes Go.WideShapes Go.ChangeAt Go.RowKit Num
set_option maxHeartbeats 32000000 in
theorem walk (P Q G y n : Int) (one : Bool) (B : Bo) (V : Vt) (R : Rv) (w : World) (uP : U64 P) (uQ : U64 Q) (uG : U64 G) (uy : U64 y) (hn : -9223372036854775808 ≤ n ∧ n ≤ 9223372036854775807) (u1 : True) (hB : BoIn w B) (hV : VtIn w V) (hR : RvIn w R) (hsm : B.n + B.m + B.k ≤ 1048576) (hT : Tabs w) :
 Calls Tryz.prog 4 #[.agg #[υ P, υ Q, υ G], υ y, .int .i64 n, .bool one, B.v, V.v, R.v] w fun e w' => e = .returned (.bool true) ∧ Below w.heap.size w w' := by
 have HT := Lh hT
 have HB := Lh hB
 have HV := Lh hV
 have HR := Lh hR
 have hP := uP.1
 have hQ := uQ.1
 have hG := uG.1
 have hy := uy.1
 have hbn : B.n + B.m ≤ 2097152 := by omega
 have hbk : B.k ≤ 2097152 := by omega
 clear hT hB hV hR uP uQ uG uy hn u1 hsm
 unfold Bo.v Vt.v Rv.v
 obtain ⟨F_g, F_b, F_v, F_r, HBW⟩ := bx4 w [υ P, υ Q, υ G] 24 [.slice B.a B.n B.c, .slice B.b B.m B.d, .slice B.e B.k B.f] 55 V.cl 33 [.slice R.a R.n R.c, .slice R.b R.m R.d] 36
 go_enter Tryz.func4, Tryz.ntmps4
 obtain ⟨qb0, qb1, qb2⟩ := F_b.o.k3
 go_wp2_with fail
 clear qb0 qb1 qb2
 refine (rGreat_any (B := B) _ (HB.o.keep HBW.o) hbn hbk).mono ?_
 rintro e w2 ⟨hg2, hb2⟩
 obtain ⟨r, rfl, hfew⟩ := hg2
 have HFE := Lh hfew
 clear hfew
 replace F_g := Kd F_g hb2
 replace F_b := Kd F_b hb2
 replace F_v := Kd F_v hb2
 replace F_r := Kd F_r hb2
 replace HBW := Kt HBW hb2
 clear hb2
 cases r with
 | true =>
  go_wp2_with fail
  go_ret
  exact ⟨rfl, HBW.o⟩
 | false =>
 have HFW := Lh (HFE.o rfl)
 clear HFE
 obtain ⟨⟨qv0, qv1, qv2, qv3, qv4, qv5, qv6, qv7, qv8, qv9, qva⟩, -⟩ := F_v.o.k11
 go_wp2_with fail
 clear qv0 qv1 qv2 qv3 qv4 qv5 qv6 qv7 qv8 qv9 qva
 refine (greatV_any (V := V) _).mono ?_
 rintro e w3 ⟨rfl, hb3⟩
 replace F_g := Kd F_g hb3
 replace F_b := Kd F_b hb3
 replace F_v := Kd F_v hb3
 replace F_r := Kd F_r hb3
 replace HBW := Kt HBW hb3
 clear hb3
 cases hgv : greatV V with
 | true =>
  go_wp2_with fail
  go_ret
  exact ⟨rfl, HBW.o⟩
 | false =>
 have HVS := Lh (greatV_no hgv)
 clear hgv
 by_cases hr1 : 20 < R.n
 case pos =>
  have hd1 : decide ((20 : Int) < (R.n : Int)) = true := decide_eq_true (by omega)
  have hd1p : (20 : Int) < (R.n : Int) := by omega
  obtain ⟨qr0, qr1⟩ := F_r.o.k2
  go_wp2_with fail
  clear qr0 qr1
  go_ret
  exact ⟨rfl, HBW.o⟩
 case neg =>
 have hd1 : decide ((20 : Int) < (R.n : Int)) = false := decide_eq_false (by omega)
 have hd1p : ¬ ((20 : Int) < (R.n : Int)) := by omega
 by_cases hr2 : 20 < R.m
 case pos =>
  have hd2 : decide ((20 : Int) < (R.m : Int)) = true := decide_eq_true (by omega)
  have hd2p : (20 : Int) < (R.m : Int) := by omega
  obtain ⟨qr0, qr1⟩ := F_r.o.k2
  go_wp2_with fail
  clear qr0 qr1
  go_ret
  exact ⟨rfl, HBW.o⟩
 case neg =>
 have hd2 : decide ((20 : Int) < (R.m : Int)) = false := decide_eq_false (by omega)
 have hd2p : ¬ ((20 : Int) < (R.m : Int)) := by omega
 have HRS := Lh (show R.n ≤ 20 ∧ R.m ≤ 20 by omega)
 have HSM := Lh (show BoSm B from ⟨by have := HFW.o.f1; omega, by have := HFW.o.f2; omega, (fun X h => by have := HFW.o.f4 X h; omega), (fun X h => by have := HFW.o.f3 X h; omega)⟩)
 obtain ⟨qr0, qr1⟩ := F_r.o.k2
 obtain ⟨qb0, qb1, qb2⟩ := F_b.o.k3
 go_wp2_with fail
 clear qr0 qr1 qb0 qb1 qb2
 refine (rTwin_any (B := B) _ (HB.o.keep HBW.o) HSM.o).mono ?_
 rintro e w4 ⟨ht4, hb4⟩
 obtain ⟨O, rfl, hO, o1, o2, o3, oS⟩ := ht4.bo
 have HL := Lh (Like.mk o1 o2 o3 oS)
 clear ht4 o1 o2 o3 oS
 replace F_g := Kd F_g hb4
 replace F_b := Kd F_b hb4
 replace F_v := Kd F_v hb4
 replace F_r := Kd F_r hb4
 replace HBW := Kt HBW hb4
 clear hb4
 have HO := Lh hO
 clear hO
 have HSO := Lh (HL.o.sm HSM.o)
 simp only [Bo.v]
 have hz := bz w4 (.cells #[.slice O.a O.n O.c, .slice O.b O.m O.d, .slice O.e O.k O.f] 55)
 replace F_g := Kd F_g hz
 replace F_b := Kd F_b hz
 replace F_v := Kd F_v hz
 replace F_r := Kd F_r hz
 replace HO := Lh (HO.o.keep hz)
 replace HBW := Lh (HBW.o.alloc HBW.o.size (.cells #[.slice O.a O.n O.c, .slice O.b O.m O.d, .slice O.e O.k O.f] 55))
 have F_o := Lh (show Cl (w4.alloc (.cells #[.slice O.a O.n O.c, .slice O.b O.m O.d, .slice O.e O.k O.f] 55)) w4.heap.size [.slice O.a O.n O.c, .slice O.b O.m O.d, .slice O.e O.k O.f] from Cl.at w4 [.slice O.a O.n O.c, .slice O.b O.m O.d, .slice O.e O.k O.f] 55 w4.heap.size rfl)
 obtain ⟨qg0, qg1, qg2⟩ := F_g.o.k3
 obtain ⟨qo0, qo1, qo2⟩ := F_o.o.k3
 obtain ⟨⟨qv0, qv1, qv2, qv3, qv4, qv5, qv6, qv7, qv8, qv9, qva⟩, -⟩ := F_v.o.k11
 go_wp2_with fail
 clear qg0 qg1 qg2 qo0 qo1 qo2 qv0 qv1 qv2 qv3 qv4 qv5 qv6 qv7 qv8 qv9 qva
 refine (cast_any (n := n) (one := one) (B := O) (V := V) _ (HT.o.below HBW.o) hP hQ hG hy HO.o HSO.o (HV.o.keep HBW.o) (by have := HVS.o; omega) (by have := HVS.o; omega)).mono ?_
 rintro e w5 hc
 obtain ⟨hb, C, ec, rfl, hX, tX⟩ := hc.told
 have HTC := Lh (tX.like HL.o)
 clear hc tX
 replace F_g := Kd F_g hb
 replace F_b := Kd F_b hb
 replace F_v := Kd F_v hb
 replace F_r := Kd F_r hb
 replace HO := Lh (HO.o.keep hb)
 replace F_o := Kd F_o hb
 replace HBW := Kt HBW hb
 clear hb
 have HC := Lh hX
 clear hX
 simp only [Bo.v]
 have hz := bz w5 (.cells #[.slice C.a C.n C.c, .slice C.b C.m C.d, .slice C.e C.k C.f] 55)
 replace F_g := Kd F_g hz
 replace F_b := Kd F_b hz
 replace F_v := Kd F_v hz
 replace F_r := Kd F_r hz
 replace HO := Lh (HO.o.keep hz)
 replace F_o := Kd F_o hz
 replace HC := Lh (HC.o.keep hz)
 replace HBW := Lh (HBW.o.alloc HBW.o.size (.cells #[.slice C.a C.n C.c, .slice C.b C.m C.d, .slice C.e C.k C.f] 55))
 have F_c := Lh (show Cl (w5.alloc (.cells #[.slice C.a C.n C.c, .slice C.b C.m C.d, .slice C.e C.k C.f] 55)) w5.heap.size [.slice C.a C.n C.c, .slice C.b C.m C.d, .slice C.e C.k C.f] from Cl.at w5 [.slice C.a C.n C.c, .slice C.b C.m C.d, .slice C.e C.k C.f] 55 w5.heap.size rfl)
 obtain ⟨qg0, qg1, qg2⟩ := F_g.o.k3
 obtain ⟨qb0, qb1, qb2⟩ := F_b.o.k3
 obtain ⟨⟨qv0, qv1, qv2, qv3, qv4, qv5, qv6, qv7, qv8, qv9, qva⟩, -⟩ := F_v.o.k11
 go_wp2_with fail
 clear qg0 qg1 qg2 qb0 qb1 qb2 qv0 qv1 qv2 qv3 qv4 qv5 qv6 qv7 qv8 qv9 qva
 refine (rCast36_any (n := n) (one := one) (B := B) (V := V) _ (HT.o.below HBW.o) hP hQ hG hy (HB.o.keep HBW.o) HSM.o (HV.o.keep HBW.o) (by have := HVS.o; omega) (by have := HVS.o; omega)).mono ?_
 rintro e w6 hc
 obtain ⟨hb, D, ed, rfl, hX, tX⟩ := hc.told
 have HTD := Lh tX
 clear hc tX
 replace F_g := Kd F_g hb
 replace F_b := Kd F_b hb
 replace F_v := Kd F_v hb
 replace F_r := Kd F_r hb
 replace HO := Lh (HO.o.keep hb)
 replace F_o := Kd F_o hb
 replace HC := Lh (HC.o.keep hb)
 replace F_c := Kd F_c hb
 replace HBW := Kt HBW hb
 clear hb
 have HD := Lh hX
 clear hX
 simp only [Bo.v]
 have hz := bz w6 (.cells #[.slice D.a D.n D.c, .slice D.b D.m D.d, .slice D.e D.k D.f] 55)
 replace F_g := Kd F_g hz
 replace F_b := Kd F_b hz
 replace F_v := Kd F_v hz
 replace F_r := Kd F_r hz
 replace HO := Lh (HO.o.keep hz)
 replace F_o := Kd F_o hz
 replace HC := Lh (HC.o.keep hz)
 replace F_c := Kd F_c hz
 replace HD := Lh (HD.o.keep hz)
 replace HBW := Lh (HBW.o.alloc HBW.o.size (.cells #[.slice D.a D.n D.c, .slice D.b D.m D.d, .slice D.e D.k D.f] 55))
 have F_d := Lh (show Cl (w6.alloc (.cells #[.slice D.a D.n D.c, .slice D.b D.m D.d, .slice D.e D.k D.f] 55)) w6.heap.size [.slice D.a D.n D.c, .slice D.b D.m D.d, .slice D.e D.k D.f] from Cl.at w6 [.slice D.a D.n D.c, .slice D.b D.m D.d, .slice D.e D.k D.f] 55 w6.heap.size rfl)
 obtain rfl : ec = ed := (HTC.o.same HTD.o).1
 obtain ⟨qg0, qg1, qg2⟩ := F_g.o.k3
 obtain ⟨qo0, qo1, qo2⟩ := F_o.o.k3
 obtain ⟨⟨qv0, qv1, qv2, qv3, qv4, qv5, qv6, qv7, qv8, qv9, qva⟩, -⟩ := F_v.o.k11
 obtain ⟨qr0, qr1⟩ := F_r.o.k2
 go_wp2_with fail
 clear qg0 qg1 qg2 qo0 qo1 qo2 qv0 qv1 qv2 qv3 qv4 qv5 qv6 qv7 qv8 qv9 qva qr0 qr1
 refine (chal_any (n := n) (one := one) (B := O) (V := V) (R := R) _ (HT.o.below HBW.o) hP hQ hG hy HO.o HSO.o (HV.o.keep HBW.o) (HR.o.keep HBW.o) (by have := HVS.o; omega) (by have := HVS.o; omega) (by have := HRS.o; omega) (by have := HRS.o; omega)).mono ?_
 rintro e w7 hc
 obtain ⟨hb, H, eh, rfl, hX, tX⟩ := hc.told
 have HTH := Lh (tX.like HL.o)
 clear hc tX
 replace F_g := Kd F_g hb
 replace F_b := Kd F_b hb
 replace F_v := Kd F_v hb
 replace F_r := Kd F_r hb
 replace HO := Lh (HO.o.keep hb)
 replace F_o := Kd F_o hb
 replace HC := Lh (HC.o.keep hb)
 replace F_c := Kd F_c hb
 replace HD := Lh (HD.o.keep hb)
 replace F_d := Kd F_d hb
 replace HBW := Kt HBW hb
 clear hb
 have HH := Lh hX
 clear hX
 simp only [Bo.v]
 have hz := bz w7 (.cells #[.slice H.a H.n H.c, .slice H.b H.m H.d, .slice H.e H.k H.f] 55)
 replace F_g := Kd F_g hz
 replace F_b := Kd F_b hz
 replace F_v := Kd F_v hz
 replace F_r := Kd F_r hz
 replace HO := Lh (HO.o.keep hz)
 replace F_o := Kd F_o hz
 replace HC := Lh (HC.o.keep hz)
 replace F_c := Kd F_c hz
 replace HD := Lh (HD.o.keep hz)
 replace F_d := Kd F_d hz
 replace HH := Lh (HH.o.keep hz)
 replace HBW := Lh (HBW.o.alloc HBW.o.size (.cells #[.slice H.a H.n H.c, .slice H.b H.m H.d, .slice H.e H.k H.f] 55))
 have F_h := Lh (show Cl (w7.alloc (.cells #[.slice H.a H.n H.c, .slice H.b H.m H.d, .slice H.e H.k H.f] 55)) w7.heap.size [.slice H.a H.n H.c, .slice H.b H.m H.d, .slice H.e H.k H.f] from Cl.at w7 [.slice H.a H.n H.c, .slice H.b H.m H.d, .slice H.e H.k H.f] 55 w7.heap.size rfl)
 obtain ⟨qg0, qg1, qg2⟩ := F_g.o.k3
 obtain ⟨qb0, qb1, qb2⟩ := F_b.o.k3
 obtain ⟨⟨qv0, qv1, qv2, qv3, qv4, qv5, qv6, qv7, qv8, qv9, qva⟩, -⟩ := F_v.o.k11
 obtain ⟨qr0, qr1⟩ := F_r.o.k2
 go_wp2_with fail
 clear qg0 qg1 qg2 qb0 qb1 qb2 qv0 qv1 qv2 qv3 qv4 qv5 qv6 qv7 qv8 qv9 qva qr0 qr1
 refine (rChal36_any (n := n) (one := one) (B := B) (V := V) (R := R) _ (HT.o.below HBW.o) hP hQ hG hy (HB.o.keep HBW.o) HSM.o (HV.o.keep HBW.o) (HR.o.keep HBW.o) (by have := HVS.o; omega) (by have := HVS.o; omega) (by have := HRS.o; omega) (by have := HRS.o; omega)).mono ?_
 rintro e w8 hc
 obtain ⟨hb, J, ej, rfl, hX, tX⟩ := hc.told
 have HTJ := Lh tX
 clear hc tX
 replace F_g := Kd F_g hb
 replace F_b := Kd F_b hb
 replace F_v := Kd F_v hb
 replace F_r := Kd F_r hb
 replace HO := Lh (HO.o.keep hb)
 replace F_o := Kd F_o hb
 replace HC := Lh (HC.o.keep hb)
 replace F_c := Kd F_c hb
 replace HD := Lh (HD.o.keep hb)
 replace F_d := Kd F_d hb
 replace HH := Lh (HH.o.keep hb)
 replace F_h := Kd F_h hb
 replace HBW := Kt HBW hb
 clear hb
 have HJ := Lh hX
 clear hX
 simp only [Bo.v]
 have hz := bz w8 (.cells #[.slice J.a J.n J.c, .slice J.b J.m J.d, .slice J.e J.k J.f] 55)
 replace F_g := Kd F_g hz
 replace F_b := Kd F_b hz
 replace F_v := Kd F_v hz
 replace F_r := Kd F_r hz
 replace HO := Lh (HO.o.keep hz)
 replace F_o := Kd F_o hz
 replace HC := Lh (HC.o.keep hz)
 replace F_c := Kd F_c hz
 replace HD := Lh (HD.o.keep hz)
 replace F_d := Kd F_d hz
 replace HH := Lh (HH.o.keep hz)
 replace F_h := Kd F_h hz
 replace HJ := Lh (HJ.o.keep hz)
 replace HBW := Lh (HBW.o.alloc HBW.o.size (.cells #[.slice J.a J.n J.c, .slice J.b J.m J.d, .slice J.e J.k J.f] 55))
 have F_j := Lh (show Cl (w8.alloc (.cells #[.slice J.a J.n J.c, .slice J.b J.m J.d, .slice J.e J.k J.f] 55)) w8.heap.size [.slice J.a J.n J.c, .slice J.b J.m J.d, .slice J.e J.k J.f] from Cl.at w8 [.slice J.a J.n J.c, .slice J.b J.m J.d, .slice J.e J.k J.f] 55 w8.heap.size rfl)
 obtain rfl : eh = ej := (HTH.o.same HTJ.o).1
 have HSC := Lh (HTC.o.sm HFW.o HVS.o)
 have HSH := Lh (HTH.o.sm HFW.o HVS.o HRS.o)
 have HFC := Lh (HTC.o.sameB (HB.o))
 have HFH := Lh (HTH.o.sameC HTC.o HH.o HC.o)
 have HLC := Lh (HTC.o.same HTD.o).2
 have HLH := Lh (HTH.o.same HTJ.o).2
 obtain ⟨p1, hp1⟩ : ∃ p, p = decide (C.n = B.n ∧ C.m = B.m ∧ C.k = B.k) := ⟨_, rfl⟩
 obtain ⟨p2, hp2⟩ : ∃ p, p = decide (H.n = C.n ∧ H.m = C.m ∧ H.k = C.k) := ⟨_, rfl⟩
 have HP1 := Lh hp1
 have HP2 := Lh hp2
 clear hp1 hp2
 obtain ⟨ev, hev⟩ := BvS.exists P Q G y n one B
 have HEV := Lh hev
 clear hev
 go_wp2_with fail
 cases p1 <;> cases p2
 all_goals
  replace F_g := Lh (F_g.o.keep (Below.refl _ _).drew)
  replace F_b := Lh (F_b.o.keep (Below.refl _ _).drew)
  replace F_v := Lh (F_v.o.keep (Below.refl _ _).drew)
  replace F_r := Lh (F_r.o.keep (Below.refl _ _).drew)
  replace HO := Lh (HO.o.keep (Below.refl _ _).drew)
  replace F_o := Lh (F_o.o.keep (Below.refl _ _).drew)
  replace HC := Lh (HC.o.keep (Below.refl _ _).drew)
  replace F_c := Lh (F_c.o.keep (Below.refl _ _).drew)
  replace HD := Lh (HD.o.keep (Below.refl _ _).drew)
  replace F_d := Lh (F_d.o.keep (Below.refl _ _).drew)
  replace HH := Lh (HH.o.keep (Below.refl _ _).drew)
  replace F_h := Lh (F_h.o.keep (Below.refl _ _).drew)
  replace HJ := Lh (HJ.o.keep (Below.refl _ _).drew)
  replace F_j := Lh (F_j.o.keep (Below.refl _ _).drew)
  replace HBW := Lh HBW.o.drew
  have hS0 := And.intro F_b.o (And.intro F_o.o (And.intro F_c.o F_h.o))
  refine wp_region_stage 21 (fun w' => Cl w' (w.heap.size + 1) [.slice B.a B.n B.c, .slice B.b B.m B.d, .slice B.e B.k B.f] ∧ Cl w' w4.heap.size [.slice O.a O.n O.c, .slice O.b O.m O.d, .slice O.e O.k O.f] ∧ Cl w' w5.heap.size [.slice C.a C.n C.c, .slice C.b C.m C.d, .slice C.e C.k C.f] ∧ Cl w' w7.heap.size [.slice H.a H.n H.c, .slice H.b H.m H.d, .slice H.e H.k H.f]) (by kernel_rfl) ?_
  refine tkL (i := 0) (some 87) (.load 55 (.tmp 15)) 55 [2, 3, 4, 5, 6, 7, 8, 9, 10, 11, 12, 13, 14, 15, 16, 17, 18, 19, 20, 21] (v := ?_) hS0 (fun w' hSw => ?_) ?_
  rotate_left
  · obtain ⟨-, t2, -, -⟩ := hSw; have o0_ := t2.c 0 _ rfl; have o1_ := t2.c 1 _ rfl; have o2_ := t2.c 2 _ rfl
    unfold bareOp; go_simp; try with_reducible rfl
  simp only [sY]
  refine tkL (i := 1) (some 88) (.load 55 (.tmp 11)) 55 [2, 3, 4, 5, 6, 7, 8, 9, 10, 11, 12, 13, 14, 15, 16, 17, 18, 19, 20, 21] (v := ?_) hS0 (fun w' hSw => ?_) ?_
  rotate_left
  · obtain ⟨t1, -, -, -⟩ := hSw; have b0_ := t1.c 0 _ rfl; have b1_ := t1.c 1 _ rfl; have b2_ := t1.c 2 _ rfl
    unfold bareOp; go_simp; try with_reducible rfl
  simp only [sY]
  refine onl (i := 2) (some 89) (.call { callee := .value (.func 20), args := #[.tmp 87, .tmp 88], argTypes := #[55, 55] }) 4 (fun K hK => ?_)
  unfold bareOp
  refine OpW.out (wp_of_enter (run_call _ _ _ _ 20 Tryz.func20 (vs := #[.agg #[.slice O.a O.n O.c, .slice O.b O.m O.d, .slice O.e O.k O.f], .agg #[.slice B.a B.n B.c, .slice B.b B.m B.d, .slice B.e B.k B.f]]) (by simp only [List.map_toArray, List.map_cons, List.map_nil]; rfl) rfl (by kernel_rfl) (by kernel_rfl)) (bSameL_any (C := O) (B := B) _ HO.o (HB.o.keep HBW.o) HL.o HSO.o) ?_)
  rintro e w9 ⟨rfl, hb7⟩
  refine ⟨_, rfl, ?_⟩
  replace F_g := Kd F_g hb7
  replace F_b := Kd F_b hb7
  replace F_v := Kd F_v hb7
  replace F_r := Kd F_r hb7
  replace HO := Lh (HO.o.keep hb7)
  replace F_o := Kd F_o hb7
  replace HC := Lh (HC.o.keep hb7)
  replace F_c := Kd F_c hb7
  replace HD := Lh (HD.o.keep hb7)
  replace F_d := Kd F_d hb7
  replace HH := Lh (HH.o.keep hb7)
  replace F_h := Kd F_h hb7
  replace HJ := Lh (HJ.o.keep hb7)
  replace F_j := Kd F_j hb7
  replace HBW := Kt HBW hb7
  clear hb7 hS0
  have hS0 := And.intro F_b.o (And.intro F_o.o (And.intro F_c.o F_h.o))
  refine hK.o _ _ (fun _ => hS0) ?_
  clear hK K
  try simp only [sY]
  refine tkP (i := 3) (some 90) (.move (.tmp 89)) 4 (fun _ => hS0) ?_
  simp only [sY]
  refine tkLG (i := 4) (some 91) (.load 55 (.tmp 16)) 55 (some (3, true)) [6, 9, 10, 11, 12, 13, 14, 15, 16, 17, 18, 19, 20, 21] (v := ?_) hS0 (fun w' hSw => ?_) ?_
  rotate_left
  · obtain ⟨-, -, t3, -⟩ := hSw; have c0_ := t3.c 0 _ rfl; have c1_ := t3.c 1 _ rfl; have c2_ := t3.c 2 _ rfl
    unfold bareOp; go_simp; try with_reducible rfl
  simp only [sY]
  refine tkLG (i := 5) (some 92) (.load 55 (.tmp 11)) 55 (some (3, true)) [6, 9, 10, 11, 12, 13, 14, 15, 16, 17, 18, 19, 20, 21] (v := ?_) hS0 (fun w' hSw => ?_) ?_
  rotate_left
  · obtain ⟨t1, -, -, -⟩ := hSw; have b0_ := t1.c 0 _ rfl; have b1_ := t1.c 1 _ rfl; have b2_ := t1.c 2 _ rfl
    unfold bareOp; go_simp; try with_reducible rfl
  simp only [sY]
  refine tkLG (i := 7) (some 94) (.load 55 (.tmp 16)) 55 (some (3, true)) [9, 10, 11, 12, 13, 14, 15, 16, 17, 18, 19, 20, 21] (v := ?_) hS0 (fun w' hSw => ?_) ?_
  rotate_left
  · obtain ⟨-, -, t3, -⟩ := hSw; have c0_ := t3.c 0 _ rfl; have c1_ := t3.c 1 _ rfl; have c2_ := t3.c 2 _ rfl
    unfold bareOp; go_simp; try with_reducible rfl
  simp only [sY]
  refine tkLG (i := 8) (some 95) (.load 55 (.tmp 11)) 55 (some (3, true)) [9, 10, 11, 12, 13, 14, 15, 16, 17, 18, 19, 20, 21] (v := ?_) hS0 (fun w' hSw => ?_) ?_
  rotate_left
  · obtain ⟨t1, -, -, -⟩ := hSw; have b0_ := t1.c 0 _ rfl; have b1_ := t1.c 1 _ rfl; have b2_ := t1.c 2 _ rfl
    unfold bareOp; go_simp; try with_reducible rfl
  simp only [sY]
  refine wpAnyB_onlyG (i := 6) (some 93) (.call { callee := .value (.func 20), args := #[.tmp 91, .tmp 92], argTypes := #[55, 55] }) 4 (some (3, true)) ⟨_, rfl, rfl, rfl, rfl, rfl⟩ (by kernel_rfl) rfl (fun K hK => ?_)
  unfold bareOp
  refine OpW.out (wp_of_enter (run_call _ _ _ _ 20 Tryz.func20 (vs := #[.agg #[.slice C.a C.n C.c, .slice C.b C.m C.d, .slice C.e C.k C.f], .agg #[.slice B.a B.n B.c, .slice B.b B.m B.d, .slice B.e B.k B.f]]) (by simp only [List.map_toArray, List.map_cons, List.map_nil]; rfl) rfl (by kernel_rfl) (by kernel_rfl)) (bSameP_any (C := C) (B := B) _ HC.o (HB.o.keep HBW.o) HFC.o HSC.o HP1.o) ?_)
  rintro e w9 ⟨rfl, hb7⟩
  refine ⟨_, rfl, ?_⟩
  replace F_g := Kd F_g hb7
  replace F_b := Kd F_b hb7
  replace F_v := Kd F_v hb7
  replace F_r := Kd F_r hb7
  replace HO := Lh (HO.o.keep hb7)
  replace F_o := Kd F_o hb7
  replace HC := Lh (HC.o.keep hb7)
  replace F_c := Kd F_c hb7
  replace HD := Lh (HD.o.keep hb7)
  replace F_d := Kd F_d hb7
  replace HH := Lh (HH.o.keep hb7)
  replace F_h := Kd F_h hb7
  replace HJ := Lh (HJ.o.keep hb7)
  replace F_j := Kd F_j hb7
  replace HBW := Kt HBW hb7
  clear hb7 hS0
  have hS0 := And.intro F_b.o (And.intro F_o.o (And.intro F_c.o F_h.o))
  refine hK.o _ _ (fun _ => hS0) ?_
  clear hK K
  try simp only [sY]
  refine wpAnyB_onlyG (i := 9) (some 96) (.call { callee := .value (.func 21), args := #[.tmp 94, .tmp 95], argTypes := #[55, 55] }) 4 (some (3, true)) ⟨_, rfl, rfl, rfl, rfl, rfl⟩ (by kernel_rfl) rfl (fun K hK => ?_)
  unfold bareOp
  refine OpW.out (wp_of_enter (run_call _ _ _ _ 21 Tryz.func21 (vs := #[.agg #[.slice C.a C.n C.c, .slice C.b C.m C.d, .slice C.e C.k C.f], .agg #[.slice B.a B.n B.c, .slice B.b B.m B.d, .slice B.e B.k B.f]]) (by simp only [List.map_toArray, List.map_cons, List.map_nil]; rfl) rfl (by kernel_rfl) (by kernel_rfl)) (rSameP_any (C := C) (B := B) _ HC.o (HB.o.keep HBW.o) HFC.o HSC.o HP1.o) ?_)
  rintro e w9 ⟨rfl, hb7⟩
  refine ⟨_, rfl, ?_⟩
  replace F_g := Kd F_g hb7
  replace F_b := Kd F_b hb7
  replace F_v := Kd F_v hb7
  replace F_r := Kd F_r hb7
  replace HO := Lh (HO.o.keep hb7)
  replace F_o := Kd F_o hb7
  replace HC := Lh (HC.o.keep hb7)
  replace F_c := Kd F_c hb7
  replace HD := Lh (HD.o.keep hb7)
  replace F_d := Kd F_d hb7
  replace HH := Lh (HH.o.keep hb7)
  replace F_h := Kd F_h hb7
  replace HJ := Lh (HJ.o.keep hb7)
  replace F_j := Kd F_j hb7
  replace HBW := Kt HBW hb7
  clear hb7 hS0
  have hS0 := And.intro F_b.o (And.intro F_o.o (And.intro F_c.o F_h.o))
  refine hK.o _ _ (fun _ => hS0) ?_
  clear hK K
  try simp only [sY]
  refine tkPG (i := 10) (some 97) (.binOp .eql 4 (.tmp 93) (.tmp 96) 4) 4 (some (3, true)) (fun _ => hS0) ?_
  simp only [sY]
  refine tkP (i := 11) (some 98) (.pick (.tmp 90) (.tmp 97) (.const (.bool false))) 4 (fun _ => hS0) ?_
  simp only [sY]
  refine tkP (i := 12) (some 99) (.move (.tmp 98)) 4 (fun _ => hS0) ?_
  simp only [sY]
  refine tkLG (i := 13) (some 100) (.load 55 (.tmp 20)) 55 (some (12, true)) [15, 18, 19, 20, 21] (v := ?_) hS0 (fun w' hSw => ?_) ?_
  rotate_left
  · obtain ⟨-, -, -, t4⟩ := hSw; have h0_ := t4.c 0 _ rfl; have h1_ := t4.c 1 _ rfl; have h2_ := t4.c 2 _ rfl
    unfold bareOp; go_simp; try with_reducible rfl
  simp only [sY]
  refine tkLG (i := 14) (some 101) (.load 55 (.tmp 16)) 55 (some (12, true)) [15, 18, 19, 20, 21] (v := ?_) hS0 (fun w' hSw => ?_) ?_
  rotate_left
  · obtain ⟨-, -, t3, -⟩ := hSw; have c0_ := t3.c 0 _ rfl; have c1_ := t3.c 1 _ rfl; have c2_ := t3.c 2 _ rfl
    unfold bareOp; go_simp; try with_reducible rfl
  simp only [sY]
  refine tkLG (i := 16) (some 103) (.load 55 (.tmp 20)) 55 (some (12, true)) [18, 19, 20, 21] (v := ?_) hS0 (fun w' hSw => ?_) ?_
  rotate_left
  · obtain ⟨-, -, -, t4⟩ := hSw; have h0_ := t4.c 0 _ rfl; have h1_ := t4.c 1 _ rfl; have h2_ := t4.c 2 _ rfl
    unfold bareOp; go_simp; try with_reducible rfl
  simp only [sY]
  refine tkLG (i := 17) (some 104) (.load 55 (.tmp 16)) 55 (some (12, true)) [18, 19, 20, 21] (v := ?_) hS0 (fun w' hSw => ?_) ?_
  rotate_left
  · obtain ⟨-, -, t3, -⟩ := hSw; have c0_ := t3.c 0 _ rfl; have c1_ := t3.c 1 _ rfl; have c2_ := t3.c 2 _ rfl
    unfold bareOp; go_simp; try with_reducible rfl
  simp only [sY]
  refine wpAnyB_onlyG (i := 15) (some 102) (.call { callee := .value (.func 20), args := #[.tmp 100, .tmp 101], argTypes := #[55, 55] }) 4 (some (12, true)) ⟨_, rfl, rfl, rfl, rfl, rfl⟩ (by kernel_rfl) rfl (fun K hK => ?_)
  unfold bareOp
  refine OpW.out (wp_of_enter (run_call _ _ _ _ 20 Tryz.func20 (vs := #[.agg #[.slice H.a H.n H.c, .slice H.b H.m H.d, .slice H.e H.k H.f], .agg #[.slice C.a C.n C.c, .slice C.b C.m C.d, .slice C.e C.k C.f]]) (by simp only [List.map_toArray, List.map_cons, List.map_nil]; rfl) rfl (by kernel_rfl) (by kernel_rfl)) (bSameP_any (C := H) (B := C) _ HH.o HC.o HFH.o HSH.o HP2.o) ?_)
  rintro e w9 ⟨rfl, hb7⟩
  refine ⟨_, rfl, ?_⟩
  replace F_g := Kd F_g hb7
  replace F_b := Kd F_b hb7
  replace F_v := Kd F_v hb7
  replace F_r := Kd F_r hb7
  replace HO := Lh (HO.o.keep hb7)
  replace F_o := Kd F_o hb7
  replace HC := Lh (HC.o.keep hb7)
  replace F_c := Kd F_c hb7
  replace HD := Lh (HD.o.keep hb7)
  replace F_d := Kd F_d hb7
  replace HH := Lh (HH.o.keep hb7)
  replace F_h := Kd F_h hb7
  replace HJ := Lh (HJ.o.keep hb7)
  replace F_j := Kd F_j hb7
  replace HBW := Kt HBW hb7
  clear hb7 hS0
  have hS0 := And.intro F_b.o (And.intro F_o.o (And.intro F_c.o F_h.o))
  refine hK.o _ _ (fun _ => hS0) ?_
  clear hK K
  try simp only [sY]
  refine wpAnyB_onlyG (i := 18) (some 105) (.call { callee := .value (.func 21), args := #[.tmp 103, .tmp 104], argTypes := #[55, 55] }) 4 (some (12, true)) ⟨_, rfl, rfl, rfl, rfl, rfl⟩ (by kernel_rfl) rfl (fun K hK => ?_)
  unfold bareOp
  refine OpW.out (wp_of_enter (run_call _ _ _ _ 21 Tryz.func21 (vs := #[.agg #[.slice H.a H.n H.c, .slice H.b H.m H.d, .slice H.e H.k H.f], .agg #[.slice C.a C.n C.c, .slice C.b C.m C.d, .slice C.e C.k C.f]]) (by simp only [List.map_toArray, List.map_cons, List.map_nil]; rfl) rfl (by kernel_rfl) (by kernel_rfl)) (rSameP_any (C := H) (B := C) _ HH.o HC.o HFH.o HSH.o HP2.o) ?_)
  rintro e w9 ⟨rfl, hb7⟩
  refine ⟨_, rfl, ?_⟩
  replace F_g := Kd F_g hb7
  replace F_b := Kd F_b hb7
  replace F_v := Kd F_v hb7
  replace F_r := Kd F_r hb7
  replace HO := Lh (HO.o.keep hb7)
  replace F_o := Kd F_o hb7
  replace HC := Lh (HC.o.keep hb7)
  replace F_c := Kd F_c hb7
  replace HD := Lh (HD.o.keep hb7)
  replace F_d := Kd F_d hb7
  replace HH := Lh (HH.o.keep hb7)
  replace F_h := Kd F_h hb7
  replace HJ := Lh (HJ.o.keep hb7)
  replace F_j := Kd F_j hb7
  replace HBW := Kt HBW hb7
  clear hb7 hS0
  have hS0 := And.intro F_b.o (And.intro F_o.o (And.intro F_c.o F_h.o))
  refine hK.o _ _ (fun _ => hS0) ?_
  clear hK K
  try simp only [sY]
  refine tkPG (i := 19) (some 106) (.binOp .eql 4 (.tmp 102) (.tmp 105) 4) 4 (some (12, true)) (fun _ => hS0) ?_
  simp only [sY]
  refine tkP (i := 20) (some 107) (.pick (.tmp 99) (.tmp 106) (.const (.bool false))) 4 (fun _ => hS0) ?_
  simp only [sY]
  refine onl (i := 21) (some 24) (.assign (.tmp 107)) 4 (fun K hK => ?_)
  unfold bareOp
  go_wp2_with fail
  refine hK.o _ _ lt8 ?_
  clear hK K
  try simp only [sY]
  refine wpAnyB_done (by kernel_rfl) ?_ _
  clear hS0
  go_wp2_with fail
  replace F_g := Lh (F_g.o.keep (Below.refl _ _).drew)
  replace F_b := Lh (F_b.o.keep (Below.refl _ _).drew)
  replace F_v := Lh (F_v.o.keep (Below.refl _ _).drew)
  replace F_r := Lh (F_r.o.keep (Below.refl _ _).drew)
  replace HO := Lh (HO.o.keep (Below.refl _ _).drew)
  replace F_o := Lh (F_o.o.keep (Below.refl _ _).drew)
  replace HC := Lh (HC.o.keep (Below.refl _ _).drew)
  replace F_c := Lh (F_c.o.keep (Below.refl _ _).drew)
  replace HD := Lh (HD.o.keep (Below.refl _ _).drew)
  replace F_d := Lh (F_d.o.keep (Below.refl _ _).drew)
  replace HH := Lh (HH.o.keep (Below.refl _ _).drew)
  replace F_h := Lh (F_h.o.keep (Below.refl _ _).drew)
  replace HJ := Lh (HJ.o.keep (Below.refl _ _).drew)
  replace F_j := Lh (F_j.o.keep (Below.refl _ _).drew)
  replace HBW := Lh HBW.o.drew
  have hS0 := And.intro F_g.o (And.intro F_b.o (And.intro F_o.o (And.intro F_c.o (And.intro F_d.o (And.intro F_h.o F_j.o)))))
  refine wp_region_stage 41 (fun w' => Cl w' w.heap.size [υ P, υ Q, υ G] ∧ Cl w' (w.heap.size + 1) [.slice B.a B.n B.c, .slice B.b B.m B.d, .slice B.e B.k B.f] ∧ Cl w' w4.heap.size [.slice O.a O.n O.c, .slice O.b O.m O.d, .slice O.e O.k O.f] ∧ Cl w' w5.heap.size [.slice C.a C.n C.c, .slice C.b C.m C.d, .slice C.e C.k C.f] ∧ Cl w' w6.heap.size [.slice D.a D.n D.c, .slice D.b D.m D.d, .slice D.e D.k D.f] ∧ Cl w' w7.heap.size [.slice H.a H.n H.c, .slice H.b H.m H.d, .slice H.e H.k H.f] ∧ Cl w' w8.heap.size [.slice J.a J.n J.c, .slice J.b J.m J.d, .slice J.e J.k J.f]) (by kernel_rfl) ?_
  refine tkL (i := 0) (some 108) (.load 24 (.tmp 7)) 24 [5, 11, 12, 13, 14, 15, 16, 17, 18, 19, 20, 21, 22, 23, 24, 25, 26, 27, 28, 29, 30, 31, 32, 33, 34, 35, 36, 37, 38, 39, 40, 41] (v := ?_) hS0 (fun w' hSw => ?_) ?_
  rotate_left
  · obtain ⟨t0, -, -, -, -, -, -⟩ := hSw; have g0_ := t0.c 0 _ rfl; have g1_ := t0.c 1 _ rfl; have g2_ := t0.c 2 _ rfl
    unfold bareOp; go_simp; try with_reducible rfl
  simp only [sY]
  refine tkP (i := 1) (some 109) (.move (.tmp 1)) 22 (fun _ => hS0) ?_
  simp only [sY]
  refine tkP (i := 2) (some 110) (.move (.tmp 2)) 3 (fun _ => hS0) ?_
  simp only [sY]
  refine tkP (i := 3) (some 111) (.move (.tmp 3)) 4 (fun _ => hS0) ?_
  simp only [sY]
  refine tkL (i := 4) (some 112) (.load 55 (.tmp 15)) 55 [5, 11, 12, 13, 14, 15, 16, 17, 18, 19, 20, 21, 22, 23, 24, 25, 26, 27, 28, 29, 30, 31, 32, 33, 34, 35, 36, 37, 38, 39, 40, 41] (v := ?_) hS0 (fun w' hSw => ?_) ?_
  rotate_left
  · obtain ⟨-, -, t2, -, -, -, -⟩ := hSw; have o0_ := t2.c 0 _ rfl; have o1_ := t2.c 1 _ rfl; have o2_ := t2.c 2 _ rfl
    unfold bareOp; go_simp; try with_reducible rfl
  simp only [sY]
  refine tkL (i := 6) (some 114) (.load 24 (.tmp 7)) 24 [11, 12, 13, 14, 15, 16, 17, 18, 19, 20, 21, 22, 23, 24, 25, 26, 27, 28, 29, 30, 31, 32, 33, 34, 35, 36, 37, 38, 39, 40, 41] (v := ?_) hS0 (fun w' hSw => ?_) ?_
  rotate_left
  · obtain ⟨t0, -, -, -, -, -, -⟩ := hSw; have g0_ := t0.c 0 _ rfl; have g1_ := t0.c 1 _ rfl; have g2_ := t0.c 2 _ rfl
    unfold bareOp; go_simp; try with_reducible rfl
  simp only [sY]
  refine tkP (i := 7) (some 115) (.move (.tmp 1)) 22 (fun _ => hS0) ?_
  simp only [sY]
  refine tkP (i := 8) (some 116) (.move (.tmp 2)) 3 (fun _ => hS0) ?_
  simp only [sY]
  refine tkP (i := 9) (some 117) (.move (.tmp 3)) 4 (fun _ => hS0) ?_
  simp only [sY]
  refine tkL (i := 10) (some 118) (.load 55 (.tmp 11)) 55 [11, 12, 13, 14, 15, 16, 17, 18, 19, 20, 21, 22, 23, 24, 25, 26, 27, 28, 29, 30, 31, 32, 33, 34, 35, 36, 37, 38, 39, 40, 41] (v := ?_) hS0 (fun w' hSw => ?_) ?_
  rotate_left
  · obtain ⟨-, t1, -, -, -, -, -⟩ := hSw; have b0_ := t1.c 0 _ rfl; have b1_ := t1.c 1 _ rfl; have b2_ := t1.c 2 _ rfl
    unfold bareOp; go_simp; try with_reducible rfl
  simp only [sY]
  refine onl (i := 5) (some 113) (.call { callee := .value (.func 22), args := #[.tmp 108, .tmp 109, .tmp 110, .tmp 111, .tmp 112], argTypes := #[24, 22, 3, 4, 55] }) 38 (fun K hK => ?_)
  unfold bareOp
  refine OpW.out (wp_of_enter (run_call _ _ _ _ 22 Tryz.func22 (vs := #[.agg #[υ P, υ Q, υ G], υ y, .int .i64 n, .bool one, .agg #[.slice O.a O.n O.c, .slice O.b O.m O.d, .slice O.e O.k O.f]]) (by simp only [List.map_toArray, List.map_cons, List.map_nil]; rfl) rfl (by kernel_rfl) (by kernel_rfl)) (bvalidL_any (C := O) (B := B) _ (HT.o.below HBW.o) hP hQ hG hy HO.o HSO.o HL.o HEV.o) ?_)
  rintro e w9 ⟨rfl, hb7⟩
  refine ⟨_, rfl, ?_⟩
  replace F_g := Kd F_g hb7
  replace F_b := Kd F_b hb7
  replace F_v := Kd F_v hb7
  replace F_r := Kd F_r hb7
  replace HO := Lh (HO.o.keep hb7)
  replace F_o := Kd F_o hb7
  replace HC := Lh (HC.o.keep hb7)
  replace F_c := Kd F_c hb7
  replace HD := Lh (HD.o.keep hb7)
  replace F_d := Kd F_d hb7
  replace HH := Lh (HH.o.keep hb7)
  replace F_h := Kd F_h hb7
  replace HJ := Lh (HJ.o.keep hb7)
  replace F_j := Kd F_j hb7
  replace HBW := Kt HBW hb7
  clear hb7 hS0
  have hS0 := And.intro F_g.o (And.intro F_b.o (And.intro F_o.o (And.intro F_c.o (And.intro F_d.o (And.intro F_h.o F_j.o)))))
  refine hK.o _ _ (fun _ => hS0) ?_
  clear hK K
  try simp only [sY]
  refine onl (i := 11) (some 119) (.call { callee := .value (.func 23), args := #[.tmp 114, .tmp 115, .tmp 116, .tmp 117, .tmp 118], argTypes := #[24, 22, 3, 4, 55] }) 3 (fun K hK => ?_)
  unfold bareOp
  refine OpW.out (wp_of_enter (run_call _ _ _ _ 23 Tryz.func23 (vs := #[.agg #[υ P, υ Q, υ G], υ y, .int .i64 n, .bool one, .agg #[.slice B.a B.n B.c, .slice B.b B.m B.d, .slice B.e B.k B.f]]) (by simp only [List.map_toArray, List.map_cons, List.map_nil]; rfl) rfl (by kernel_rfl) (by kernel_rfl)) (rValid36_any (B := B) _ (HT.o.below HBW.o) hP hQ hG hy (HB.o.keep HBW.o) HSM.o HEV.o) ?_)
  rintro e w9 ⟨rfl, hb7⟩
  refine ⟨_, rfl, ?_⟩
  replace F_g := Kd F_g hb7
  replace F_b := Kd F_b hb7
  replace F_v := Kd F_v hb7
  replace F_r := Kd F_r hb7
  replace HO := Lh (HO.o.keep hb7)
  replace F_o := Kd F_o hb7
  replace HC := Lh (HC.o.keep hb7)
  replace F_c := Kd F_c hb7
  replace HD := Lh (HD.o.keep hb7)
  replace F_d := Kd F_d hb7
  replace HH := Lh (HH.o.keep hb7)
  replace F_h := Kd F_h hb7
  replace HJ := Lh (HJ.o.keep hb7)
  replace F_j := Kd F_j hb7
  replace HBW := Kt HBW hb7
  clear hb7 hS0
  have hS0 := And.intro F_g.o (And.intro F_b.o (And.intro F_o.o (And.intro F_c.o (And.intro F_d.o (And.intro F_h.o F_j.o)))))
  refine hK.o _ _ (fun _ => hS0) ?_
  clear hK K
  try simp only [sY]
  refine tkP (i := 12) (some 120) (.binOp .eql 3 (.tmp 113) (.tmp 119) 3) 4 (fun _ => hS0) ?_
  simp only [sY]
  refine tkP (i := 13) (some 121) (.move (.tmp 120)) 4 (fun _ => hS0) ?_
  simp only [sY]
  refine tkLG (i := 14) (some 122) (.load 55 (.tmp 16)) 55 (some (13, true)) [16, 17, 18, 19, 20, 21, 22, 23, 24, 25, 26, 27, 28, 29, 30, 31, 32, 33, 34, 35, 36, 37, 38, 39, 40, 41] (v := ?_) hS0 (fun w' hSw => ?_) ?_
  rotate_left
  · obtain ⟨-, -, -, t3, -, -, -⟩ := hSw; have c0_ := t3.c 0 _ rfl; have c1_ := t3.c 1 _ rfl; have c2_ := t3.c 2 _ rfl
    unfold bareOp; go_simp; try with_reducible rfl
  simp only [sY]
  refine tkLG (i := 15) (some 123) (.load 55 (.tmp 18)) 55 (some (13, true)) [16, 17, 18, 19, 20, 21, 22, 23, 24, 25, 26, 27, 28, 29, 30, 31, 32, 33, 34, 35, 36, 37, 38, 39, 40, 41] (v := ?_) hS0 (fun w' hSw => ?_) ?_
  rotate_left
  · obtain ⟨-, -, -, -, t4, -, -⟩ := hSw; have d0_ := t4.c 0 _ rfl; have d1_ := t4.c 1 _ rfl; have d2_ := t4.c 2 _ rfl
    unfold bareOp; go_simp; try with_reducible rfl
  simp only [sY]
  refine wpAnyB_onlyG (i := 16) (some 124) (.call { callee := .value (.func 21), args := #[.tmp 122, .tmp 123], argTypes := #[55, 55] }) 4 (some (13, true)) ⟨_, rfl, rfl, rfl, rfl, rfl⟩ (by kernel_rfl) rfl (fun K hK => ?_)
  unfold bareOp
  refine OpW.out (wp_of_enter (run_call _ _ _ _ 21 Tryz.func21 (vs := #[.agg #[.slice C.a C.n C.c, .slice C.b C.m C.d, .slice C.e C.k C.f], .agg #[.slice D.a D.n D.c, .slice D.b D.m D.d, .slice D.e D.k D.f]]) (by simp only [List.map_toArray, List.map_cons, List.map_nil]; rfl) rfl (by kernel_rfl) (by kernel_rfl)) (rSameL_any (C := C) (B := D) _ HC.o HD.o HLC.o HSC.o) ?_)
  rintro e w9 ⟨rfl, hb7⟩
  refine ⟨_, rfl, ?_⟩
  replace F_g := Kd F_g hb7
  replace F_b := Kd F_b hb7
  replace F_v := Kd F_v hb7
  replace F_r := Kd F_r hb7
  replace HO := Lh (HO.o.keep hb7)
  replace F_o := Kd F_o hb7
  replace HC := Lh (HC.o.keep hb7)
  replace F_c := Kd F_c hb7
  replace HD := Lh (HD.o.keep hb7)
  replace F_d := Kd F_d hb7
  replace HH := Lh (HH.o.keep hb7)
  replace F_h := Kd F_h hb7
  replace HJ := Lh (HJ.o.keep hb7)
  replace F_j := Kd F_j hb7
  replace HBW := Kt HBW hb7
  clear hb7 hS0
  have hS0 := And.intro F_g.o (And.intro F_b.o (And.intro F_o.o (And.intro F_c.o (And.intro F_d.o (And.intro F_h.o F_j.o)))))
  refine hK.o _ _ (fun _ => hS0) ?_
  clear hK K
  try simp only [sY]
  refine tkP (i := 17) (some 125) (.pick (.tmp 121) (.tmp 124) (.const (.bool false))) 4 (fun _ => hS0) ?_
  simp only [sY]
  refine tkP (i := 18) (some 126) (.move (.tmp 125)) 4 (fun _ => hS0) ?_
  simp only [sY]
  refine tkPG (i := 19) (some 127) (.move (.tmp 17)) 38 (some (18, true)) (fun _ => hS0) ?_
  simp only [sY]
  refine tkPG (i := 20) (some 128) (.move (.tmp 19)) 3 (some (18, true)) (fun _ => hS0) ?_
  simp only [sY]
  refine tkPG (i := 21) (some 129) (.binOp .eql 3 (.tmp 127) (.tmp 128) 3) 4 (some (18, true)) (fun _ => hS0) ?_
  simp only [sY]
  refine tkP (i := 22) (some 130) (.pick (.tmp 126) (.tmp 129) (.const (.bool false))) 4 (fun _ => hS0) ?_
  simp only [sY]
  refine tkP (i := 23) (some 131) (.move (.tmp 130)) 4 (fun _ => hS0) ?_
  simp only [sY]
  refine tkLG (i := 24) (some 132) (.load 55 (.tmp 20)) 55 (some (23, true)) [26, 27, 28, 29, 30, 31, 32, 33, 34, 35, 36, 37, 38, 39, 40, 41] (v := ?_) hS0 (fun w' hSw => ?_) ?_
  rotate_left
  · obtain ⟨-, -, -, -, -, t5, -⟩ := hSw; have h0_ := t5.c 0 _ rfl; have h1_ := t5.c 1 _ rfl; have h2_ := t5.c 2 _ rfl
    unfold bareOp; go_simp; try with_reducible rfl
  simp only [sY]
  refine tkLG (i := 25) (some 133) (.load 55 (.tmp 22)) 55 (some (23, true)) [26, 27, 28, 29, 30, 31, 32, 33, 34, 35, 36, 37, 38, 39, 40, 41] (v := ?_) hS0 (fun w' hSw => ?_) ?_
  rotate_left
  · obtain ⟨-, -, -, -, -, -, t6⟩ := hSw; have j0_ := t6.c 0 _ rfl; have j1_ := t6.c 1 _ rfl; have j2_ := t6.c 2 _ rfl
    unfold bareOp; go_simp; try with_reducible rfl
  simp only [sY]
  refine wpAnyB_onlyG (i := 26) (some 134) (.call { callee := .value (.func 21), args := #[.tmp 132, .tmp 133], argTypes := #[55, 55] }) 4 (some (23, true)) ⟨_, rfl, rfl, rfl, rfl, rfl⟩ (by kernel_rfl) rfl (fun K hK => ?_)
  unfold bareOp
  refine OpW.out (wp_of_enter (run_call _ _ _ _ 21 Tryz.func21 (vs := #[.agg #[.slice H.a H.n H.c, .slice H.b H.m H.d, .slice H.e H.k H.f], .agg #[.slice J.a J.n J.c, .slice J.b J.m J.d, .slice J.e J.k J.f]]) (by simp only [List.map_toArray, List.map_cons, List.map_nil]; rfl) rfl (by kernel_rfl) (by kernel_rfl)) (rSameL_any (C := H) (B := J) _ HH.o HJ.o HLH.o HSH.o) ?_)
  rintro e w9 ⟨rfl, hb7⟩
  refine ⟨_, rfl, ?_⟩
  replace F_g := Kd F_g hb7
  replace F_b := Kd F_b hb7
  replace F_v := Kd F_v hb7
  replace F_r := Kd F_r hb7
  replace HO := Lh (HO.o.keep hb7)
  replace F_o := Kd F_o hb7
  replace HC := Lh (HC.o.keep hb7)
  replace F_c := Kd F_c hb7
  replace HD := Lh (HD.o.keep hb7)
  replace F_d := Kd F_d hb7
  replace HH := Lh (HH.o.keep hb7)
  replace F_h := Kd F_h hb7
  replace HJ := Lh (HJ.o.keep hb7)
  replace F_j := Kd F_j hb7
  replace HBW := Kt HBW hb7
  clear hb7 hS0
  have hS0 := And.intro F_g.o (And.intro F_b.o (And.intro F_o.o (And.intro F_c.o (And.intro F_d.o (And.intro F_h.o F_j.o)))))
  refine hK.o _ _ (fun _ => hS0) ?_
  clear hK K
  try simp only [sY]
  refine tkP (i := 27) (some 135) (.pick (.tmp 131) (.tmp 134) (.const (.bool false))) 4 (fun _ => hS0) ?_
  simp only [sY]
  refine tkP (i := 28) (some 136) (.move (.tmp 135)) 4 (fun _ => hS0) ?_
  simp only [sY]
  refine tkPG (i := 29) (some 137) (.move (.tmp 21)) 38 (some (28, true)) (fun _ => hS0) ?_
  simp only [sY]
  refine tkPG (i := 30) (some 138) (.move (.tmp 23)) 3 (some (28, true)) (fun _ => hS0) ?_
  simp only [sY]
  refine tkPG (i := 31) (some 139) (.binOp .eql 3 (.tmp 137) (.tmp 138) 3) 4 (some (28, true)) (fun _ => hS0) ?_
  simp only [sY]
  refine tkP (i := 32) (some 140) (.pick (.tmp 136) (.tmp 139) (.const (.bool false))) 4 (fun _ => hS0) ?_
  simp only [sY]
  refine tkP (i := 33) (some 141) (.move (.tmp 140)) 4 (fun _ => hS0) ?_
  simp only [sY]
  refine tkPG (i := 34) (some 142) (.move (.tmp 24)) 4 (some (33, true)) (fun _ => hS0) ?_
  simp only [sY]
  refine tkP (i := 35) (some 143) (.pick (.tmp 141) (.tmp 142) (.const (.bool false))) 4 (fun _ => hS0) ?_
  simp only [sY]
  refine tkP (i := 36) (some 144) (.move (.tmp 143)) 4 (fun _ => hS0) ?_
  simp only [sY]
  refine tkLG (i := 37) (some 145) (.load 55 (.tmp 15)) 55 (some (36, true)) [39, 40, 41] (v := ?_) hS0 (fun w' hSw => ?_) ?_
  rotate_left
  · obtain ⟨-, -, t2, -, -, -, -⟩ := hSw; have o0_ := t2.c 0 _ rfl; have o1_ := t2.c 1 _ rfl; have o2_ := t2.c 2 _ rfl
    unfold bareOp; go_simp; try with_reducible rfl
  simp only [sY]
  refine tkLG (i := 38) (some 146) (.load 55 (.tmp 11)) 55 (some (36, true)) [39, 40, 41] (v := ?_) hS0 (fun w' hSw => ?_) ?_
  rotate_left
  · obtain ⟨-, t1, -, -, -, -, -⟩ := hSw; have b0_ := t1.c 0 _ rfl; have b1_ := t1.c 1 _ rfl; have b2_ := t1.c 2 _ rfl
    unfold bareOp; go_simp; try with_reducible rfl
  simp only [sY]
  refine wpAnyB_onlyG (i := 39) (some 147) (.call { callee := .value (.func 21), args := #[.tmp 145, .tmp 146], argTypes := #[55, 55] }) 4 (some (36, true)) ⟨_, rfl, rfl, rfl, rfl, rfl⟩ (by kernel_rfl) rfl (fun K hK => ?_)
  unfold bareOp
  refine OpW.out (wp_of_enter (run_call _ _ _ _ 21 Tryz.func21 (vs := #[.agg #[.slice O.a O.n O.c, .slice O.b O.m O.d, .slice O.e O.k O.f], .agg #[.slice B.a B.n B.c, .slice B.b B.m B.d, .slice B.e B.k B.f]]) (by simp only [List.map_toArray, List.map_cons, List.map_nil]; rfl) rfl (by kernel_rfl) (by kernel_rfl)) (rSameL_any (C := O) (B := B) _ HO.o (HB.o.keep HBW.o) HL.o HSO.o) ?_)
  rintro e w9 ⟨rfl, hb7⟩
  refine ⟨_, rfl, ?_⟩
  replace F_g := Kd F_g hb7
  replace F_b := Kd F_b hb7
  replace F_v := Kd F_v hb7
  replace F_r := Kd F_r hb7
  replace HO := Lh (HO.o.keep hb7)
  replace F_o := Kd F_o hb7
  replace HC := Lh (HC.o.keep hb7)
  replace F_c := Kd F_c hb7
  replace HD := Lh (HD.o.keep hb7)
  replace F_d := Kd F_d hb7
  replace HH := Lh (HH.o.keep hb7)
  replace F_h := Kd F_h hb7
  replace HJ := Lh (HJ.o.keep hb7)
  replace F_j := Kd F_j hb7
  replace HBW := Kt HBW hb7
  clear hb7 hS0
  have hS0 := And.intro F_g.o (And.intro F_b.o (And.intro F_o.o (And.intro F_c.o (And.intro F_d.o (And.intro F_h.o F_j.o)))))
  refine hK.o _ _ (fun _ => hS0) ?_
  clear hK K
  try simp only [sY]
  refine tkP (i := 40) (some 148) (.pick (.tmp 144) (.tmp 147) (.const (.bool false))) 4 (fun _ => hS0) ?_
  simp only [sY]
  refine onl (i := 41) (some 14) (.assign (.tmp 148)) 4 (fun K hK => ?_)
  unfold bareOp
  go_wp2_with fail
  refine hK.o _ _ lt8 ?_
  clear hK K
  try simp only [sY]
  refine wpAnyB_done (by kernel_rfl) ?_ _
  go_wp2_with fail
  go_ret
  exact ⟨rfl, HBW.o⟩
theorem reads (os : Os) {H : Type} (enc : TypeId × Value → H) : ∃ places, DataW.whole enc Tryz.prog ((World.doorLaid Tryz.prog 19 os).forCall (fun _ _ => 0) ⟨#[], #[.agg #[υ 0, υ 0, υ 0], υ 0, .int .i64 0, .bool false, .agg #[.slice none 0 0, .slice none 0 0, .slice none 0 0], .agg #[.slice none 0 0, .slice none 0 0, .bool false, υ 0, υ 0, υ 0, υ 0, υ 0, υ 0, υ 0, υ 0], .agg #[.slice none 0 0, .slice none 0 0]], []⟩).memory Tryz.f4.params.toList Rows.boothStepsSpec.vars false #[.agg #[υ 0, υ 0, υ 0], υ 0, .int .i64 0, .bool false, .agg #[.slice none 0 0, .slice none 0 0, .slice none 0 0], .agg #[.slice none 0 0, .slice none 0 0, .bool false, υ 0, υ 0, υ 0, υ 0, υ 0, υ 0, υ 0, υ 0], .agg #[.slice none 0 0, .slice none 0 0]].toList 8 = some ([.agg [.lit (.int .u64 0), .lit (.int .u64 0), .lit (.int .u64 0)], .lit (.int .u64 0), .lit (.int .i64 0), .lit (.bool false), .agg [.nil, .nil, .nil], .agg [.nil, .nil, .lit (.bool false), .agg [.agg [.lit (.int .u64 0), .lit (.int .u64 0)], .agg [.lit (.int .u64 0), .lit (.int .u64 0)], .agg [.lit (.int .u64 0), .lit (.int .u64 0)], .agg [.lit (.int .u64 0), .lit (.int .u64 0)]]], .agg [.nil, .nil]], [], places) :=
 ⟨[], by kernel_rfl⟩
theorem lifted (os : Os) (started : os.Started) (H : Type) (enc : TypeId × Value → H) (F : Stop.Interp) :
 ReturnsInHanded {} Tryz.checked os 4 .any ((Rows.OpenSpec.upto Rows.boothStepsSpec).preRow enc Tryz.prog Tryz.f4 Rows.boothStepsUptoRow.domain false Rows.boothStepsUptoRow.laid) (((Rows.OpenSpec.upto Rows.boothStepsSpec).at F).post enc Tryz.prog Tryz.f4 false true false false) := by
 obtain ⟨places, hx⟩ := reads os enc
 refine returnsInHanded_of_row (C := Tryz.checked) (s := Rows.OpenSpec.upto Rows.boothStepsSpec) own started (by kernel_rfl) Tryz.func4
  (witness_row_atRef (enc := enc) (C := Tryz.checked) false (World.doorLaid Tryz.prog 19 os) #[.agg #[υ 0, υ 0, υ 0], υ 0, .int .i64 0, .bool false, .agg #[.slice none 0 0, .slice none 0 0, .slice none 0 0], .agg #[.slice none 0 0, .slice none 0 0, .bool false, υ 0, υ 0, υ 0, υ 0, υ 0, υ 0, υ 0, υ 0], .agg #[.slice none 0 0, .slice none 0 0]] rfl (by kernel_rfl) (by kernel_rfl) (by kernel_rfl)
    (OpenSpec.preRow_of_cond 8 hx (by kernel_rfl) (fun k hk => by cases hk; kernel_rfl) (by kernel_rfl) (door_met os _))) ?_
 intro W base args ds gs before hval0 hW _ hcond _ hL _ _
 have hT := tabs_of_laid hL
 clear hL
 have hval : ∀ (j : Nat) t v, Tryz.f4.params[j]? = some t → args[j]? = some v → Value.okWide Tryz.prog W .any base t v := hval0
 have hW' := hW
 obtain ⟨p, q, hA0, hV, rfl, hfz, hnd⟩ := hW
 have hA : DataW.TrodAll enc Tryz.prog W 0 (fun _ => true) true Tryz.f4.params.toList args.toList ds p := hA0
 rw [Tryz.params4] at hA hval
 have hK := hA
 obtain ⟨v0, vs0, d0, ds0, p0, q0, hargs, rfl, rfl, h0, r0⟩ := trodAll_cons hA
 obtain ⟨v1, vs1, d1, ds1, p1, q1, rfl, rfl, rfl, h1, r1⟩ := trodAll_cons r0
 obtain ⟨v2, vs2, d2, ds2, p2, q2, rfl, rfl, rfl, h2, r2⟩ := trodAll_cons r1
 obtain ⟨v3, vs3, d3, ds3, p3, q3, rfl, rfl, rfl, h3, r3⟩ := trodAll_cons r2
 obtain ⟨v4, vs4, d4, ds4, p4, q4, rfl, rfl, rfl, h4, r4⟩ := trodAll_cons r3
 obtain ⟨v5, vs5, d5, ds5, p5, q5, rfl, rfl, rfl, h5, r5⟩ := trodAll_cons r4
 obtain ⟨v6, vs6, d6, ds6, p6, q6, rfl, rfl, rfl, h6, r6⟩ := trodAll_cons r5
 obtain ⟨rfl, rfl, rfl⟩ := trodAll_nil r6
 obtain rfl : args = #[v0, v1, v2, v3, v4, v5, v6] := by cases args; simp_all
 obtain ⟨rfl, rfl⟩ := trodVars_none hV
 obtain ⟨P, Q, G, rfl, uP, uQ, uG⟩ := open_group (hval 0 24 v0 rfl rfl) h0
 obtain ⟨y, rfl, uy⟩ := open_u64 (hval 1 22 v1 rfl rfl) h1
 obtain ⟨n, rfl, hn⟩ := open_i64 (hval 2 3 v2 rfl rfl) h2
 obtain ⟨one, rfl, u1⟩ := open_boolT (hval 3 4 v3 rfl rfl) h3
 obtain ⟨B, rfl, hB, hbl⟩ := open_booth (hval 4 55 v4 rfl rfl) h4
 obtain ⟨V, rfl, hV⟩ := open_vote (hval 5 33 v5 rfl rfl) h5
 obtain ⟨R, rfl, hR⟩ := open_reveal (hval 6 36 v6 rfl rfl) h6
 clear hA0 hval0
 have hbk := of_decide_eq_true (hcond _ rfl)
 simp only [List.append_nil, Rows.uptoBulkAll] at hbk
 have hsm : B.n + B.m + B.k ≤ 1048576 := by omega
 refine (walk P Q G y n one B V R W uP uQ uG uy hn u1 hB hV hR hsm hT).mono fun e W' ⟨he, bel⟩ => ?_
 subst he
 exact ⟨_, rfl, _, _, _, [], _, [], hW', trodAll_mk1 (shut_bool Tryz.underlying4 _), trodAll_stays laidOut (by kernel_rfl) hK bel, rfl, bel.frame _, fun h => by cases h⟩
theorem over : Rows.boothStepsUptoRow.holds Tryz.pinned (Rows.OpenSpec.upto Rows.boothStepsSpec) :=
 OpenClaim.holds_of_cond 4 Tryz.f4 rfl rfl rfl rfl rfl rfl rfl ⟨rfl, rfl, rfl, rfl, rfl⟩ rfl rfl rfl rfl rfl (by kernel_rfl) Tryz.func4 (by kernel_rfl)
  (of_decide_eq_true (by kernel_rfl)) (by unfold Func.isWrapper; first | (rw [if_pos (by decide +kernel)]; kernel_rfl) | (rw [if_neg (by decide +kernel)]; exact ⟨rfl, rfl⟩))
  (fun os started H enc _ F => by rw [OpenClaim.pre_eq_preRow]; exact lifted os started H enc F)
theorem proved : Rows.BoothStepsUptoCardSaid :=
 Claim7.holds_tied_plain_at .later [] [.data, .data] true (true, "422daa78fd2ed28af7e45e26535f094626970749b261e064aa34726bf48c7f6f") false
  over (fun _ h => by cases h) (by kernel_rfl) (fun _ h => by cases h) boothStepsUpto_row_tie rfl ⟨rfl, rfl⟩ (by kernel_rfl) rfl
  (fun f fn hf hfn => by
    obtain rfl : f = 4 := Option.some.inj ((show Tryz.prog.funcNamed "suffrage/suffragelaw36.BoothSteps" = some 4 by kernel_rfl).symm.trans hf) |>.symm
    obtain rfl : fn = Tryz.f4 := (Option.some.inj (Tryz.func4.symm.trans hfn)).symm
    exact ⟨by kernel_rfl, fun j t ht => by
     rw [Tryz.params4] at ht
     have hm : t ∈ ([24, 22, 3, 4, 55, 33, 36] : List TypeId) := by simpa using Array.mem_of_getElem? ht
     have hall : (([24, 22, 3, 4, 55, 33, 36] : List TypeId).all fun u => !Tryz.prog.wantsStandIn u) = true := by kernel_rfl
     exact (show Tryz.prog.wantsStandIn t = false by simpa using List.all_eq_true.1 hall t hm)⟩)
  (by kernel_rfl)
#print axioms proved
end Go.Proofs.YtlbldpkgnonbpaaGreatDoor.lawSteps
