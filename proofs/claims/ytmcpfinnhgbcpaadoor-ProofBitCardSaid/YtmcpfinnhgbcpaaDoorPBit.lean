/- ProofBit: the statement: for every input the law returns true, and the arguments read as before. -/
import Derived.Test.YtmcpfinnhgbcpaaDoorCardP
import Derived.Test.YtmcpfinnhgbcpaaDoorBitEq
import Derived.Test.YtmcpfinnhgbcpaaDoorOpenP
namespace Go.Proofs.YtmcpfinnhgbcpaaDoor.lawBit
open Go Sha Go.ChangeShapes Go.WideShapes Go.ChangeAt Go.RowKit Num
set_option linter.unusedSimpArgs false
set_option linter.unusedVariables false

set_option maxRecDepth 100000 in
set_option maxHeartbeats 12800000 in
theorem walk (P Q G y bm r k c z a b r0 r1 s0 s1 c0 c1 z0 z1 : Int) (tx : Option Addr) (n cp : Nat) (T : List Int) (w : World) (uP : U64 P) (uQ : U64 Q) (uG : U64 G) (uy : U64 y) (um : -9223372036854775808 ≤ bm ∧ bm ≤ 9223372036854775807) (ur : U64 r) (uk : U64 k) (uc : U64 c) (uz : U64 z) (ua : U64 a) (ub : U64 b) (ur0 : U64 r0) (ur1 : U64 r1) (us0 : U64 s0) (us1 : U64 s1) (uc0 : U64 c0) (uc1 : U64 c1) (uz0 : U64 z0) (uz1 : U64 z1) (ht : ShI .u8 w tx n T) (hb : ByteL T) (hz : tx = none → cp = 0) (hnc : n ≤ cp) (hT : Tabs w) :
    Calls Tryd.prog 6 #[.agg #[.int .u64 P, .int .u64 Q, .int .u64 G], .int .u64 y, .int .i64 bm, .int .u64 r, .int .u64 k, .int .u64 c, .int .u64 z, .agg #[.int .u64 a, .int .u64 b], .agg #[.int .u64 r0, .int .u64 r1, .int .u64 s0, .int .u64 s1, .int .u64 c0, .int .u64 c1, .int .u64 z0, .int .u64 z1], .slice tx n cp] w fun e w' => e = .returned (.bool true) ∧ Below w.heap.size w w' := by
  have hP := uP.1
  have hQ := uQ.1
  have hG := uG.1
  have y0 := uy.1
  have r0_ := ur.1
  have k0_ := uk.1
  have c_0 := uc.1
  have z0_ := uz.1
  have a0 := ua.1
  have b_0 := ub.1
  have r0_0 := ur0.1
  have r1_0 := ur1.1
  have s0_0 := us0.1
  have s1_0 := us1.1
  have c0_0 := uc0.1
  have c1_0 := uc1.1
  have z0_0 := uz0.1
  have z1_0 := uz1.1
  have HT := Lib.hid (show Txt w tx n T from ⟨hT, ht, hb⟩)
  clear ht hb hT hz hnc
  by_cases hn : 8100 < n
  case pos =>
    have hd : decide ((8100 : Int) < (n : Int)) = true := by simp; omega
    have hdn : decide (8100 < n) = true := by simp; omega
    have F_g := Lib.hid (show Boxed (((w.alloc (.cells #[.int .u64 P, .int .u64 Q, .int .u64 G] 24)).alloc (.cells #[.int .u64 a, .int .u64 b] 51)).alloc (.cells #[.int .u64 r0, .int .u64 r1, .int .u64 s0, .int .u64 s1, .int .u64 c0, .int .u64 c1, .int .u64 z0, .int .u64 z1] 54)) (w.heap.size) P Q G from ((Boxed.at _ P Q G _ (w.heap.size) (by simp)).alloc _).alloc _)
    have F_s := Lib.hid (show Pair (((w.alloc (.cells #[.int .u64 P, .int .u64 Q, .int .u64 G] 24)).alloc (.cells #[.int .u64 a, .int .u64 b] 51)).alloc (.cells #[.int .u64 r0, .int .u64 r1, .int .u64 s0, .int .u64 s1, .int .u64 c0, .int .u64 c1, .int .u64 z0, .int .u64 z1] 54)) (w.heap.size + 1) a b from (Pair.at _ a b _ (w.heap.size + 1) (by simp)).alloc _)
    have F_p := Lib.hid (show Arr .u64 (((w.alloc (.cells #[.int .u64 P, .int .u64 Q, .int .u64 G] 24)).alloc (.cells #[.int .u64 a, .int .u64 b] 51)).alloc (.cells #[.int .u64 r0, .int .u64 r1, .int .u64 s0, .int .u64 s1, .int .u64 c0, .int .u64 c1, .int .u64 z0, .int .u64 z1] 54)) (w.heap.size + 1 + 1) [r0, r1, s0, s1, c0, c1, z0, z1] from Arr.new .u64 _ [r0, r1, s0, s1, c0, c1, z0, z1] _ (w.heap.size + 1 + 1) (by simp))
    have HBW := Lib.hid (show Below w.heap.size w (((w.alloc (.cells #[.int .u64 P, .int .u64 Q, .int .u64 G] 24)).alloc (.cells #[.int .u64 a, .int .u64 b] 51)).alloc (.cells #[.int .u64 r0, .int .u64 r1, .int .u64 s0, .int .u64 s1, .int .u64 c0, .int .u64 c1, .int .u64 z0, .int .u64 z1] 54)) from (((Below.refl _ _).alloc (by simp <;> omega) _).alloc (by simp <;> omega) _).alloc (by simp <;> omega) _)
    go_enter Tryd.func6, Tryd.ntmps6
    obtain ⟨q2_0, q2_1, q2_2, q2_3, q2_4, q2_5, q2_6, q2_7, q2_8, q2_9, q2_10, q2_11, q2_12, q2_13, q2_14, q2_15⟩ := Arr.k8 F_p.out
    obtain ⟨x0a, x0b, x0c, -⟩ := id F_g.out
    obtain ⟨x1a, x1b, x1c, x1d, -⟩ := id F_s.out
    go_wp2_with fail
    clear x0a x0b x0c x1a x1b x1c x1d q2_0 q2_1 q2_2 q2_3 q2_4 q2_5 q2_6 q2_7 q2_8 q2_9 q2_10 q2_11 q2_12 q2_13 q2_14 q2_15
    refine (rLong_any _).mono ?_
    rintro e w1 ⟨rfl, rfl⟩
    obtain ⟨q2_0, q2_1, q2_2, q2_3, q2_4, q2_5, q2_6, q2_7, q2_8, q2_9, q2_10, q2_11, q2_12, q2_13, q2_14, q2_15⟩ := Arr.k8 F_p.out
    obtain ⟨x0a, x0b, x0c, -⟩ := id F_g.out
    obtain ⟨x1a, x1b, x1c, x1d, -⟩ := id F_s.out
    go_wp2_with fail
    go_ret
    exact ⟨rfl, HBW.out⟩
  case neg =>
    replace hn : n ≤ 8100 := by omega
    have hd : decide ((8100 : Int) < (n : Int)) = false := by simp; omega
    have hdn : decide (8100 < n) = false := by simp; omega
    obtain ⟨e0, e1, e2, e3, e4, e5, e6, e7, ec, hHC⟩ := RetBit.exists (lgS (bitChk P Q G y bm r k c z) n) P Q G y bm r k c z T
    have HC := Lib.hid hHC
    clear hHC
    obtain ⟨b2, c2, hHH⟩ := RetB.exists (askS P Q G [c, c0, c1, z0, z1] [y, a, b, r0, r1, s0, s1]) (bhP P Q G y a b r0 r1 s0 s1 c0 c1 z0 z1 c)
    have HH := Lib.hid hHH
    clear hHH
    obtain ⟨b3, c3, hHV⟩ := RetB.exists (lgS (askS P Q G [c0, c1, z0, z1] [y, a, b, r0, r1, s0, s1]) n) (bvP P Q G y a b r0 r1 s0 s1 c0 c1 z0 z1 T)
    have HV := Lib.hid hHV
    clear hHV
    have F_g := Lib.hid (show Boxed (((w.alloc (.cells #[.int .u64 P, .int .u64 Q, .int .u64 G] 24)).alloc (.cells #[.int .u64 a, .int .u64 b] 51)).alloc (.cells #[.int .u64 r0, .int .u64 r1, .int .u64 s0, .int .u64 s1, .int .u64 c0, .int .u64 c1, .int .u64 z0, .int .u64 z1] 54)) (w.heap.size) P Q G from ((Boxed.at _ P Q G _ (w.heap.size) (by simp)).alloc _).alloc _)
    have F_s := Lib.hid (show Pair (((w.alloc (.cells #[.int .u64 P, .int .u64 Q, .int .u64 G] 24)).alloc (.cells #[.int .u64 a, .int .u64 b] 51)).alloc (.cells #[.int .u64 r0, .int .u64 r1, .int .u64 s0, .int .u64 s1, .int .u64 c0, .int .u64 c1, .int .u64 z0, .int .u64 z1] 54)) (w.heap.size + 1) a b from (Pair.at _ a b _ (w.heap.size + 1) (by simp)).alloc _)
    have F_p := Lib.hid (show Arr .u64 (((w.alloc (.cells #[.int .u64 P, .int .u64 Q, .int .u64 G] 24)).alloc (.cells #[.int .u64 a, .int .u64 b] 51)).alloc (.cells #[.int .u64 r0, .int .u64 r1, .int .u64 s0, .int .u64 s1, .int .u64 c0, .int .u64 c1, .int .u64 z0, .int .u64 z1] 54)) (w.heap.size + 1 + 1) [r0, r1, s0, s1, c0, c1, z0, z1] from Arr.new .u64 _ [r0, r1, s0, s1, c0, c1, z0, z1] _ (w.heap.size + 1 + 1) (by simp))
    have HBW := Lib.hid (show Below w.heap.size w (((w.alloc (.cells #[.int .u64 P, .int .u64 Q, .int .u64 G] 24)).alloc (.cells #[.int .u64 a, .int .u64 b] 51)).alloc (.cells #[.int .u64 r0, .int .u64 r1, .int .u64 s0, .int .u64 s1, .int .u64 c0, .int .u64 c1, .int .u64 z0, .int .u64 z1] 54)) from (((Below.refl _ _).alloc (by simp <;> omega) _).alloc (by simp <;> omega) _).alloc (by simp <;> omega) _)
    go_enter Tryd.func6, Tryd.ntmps6
    have hcv := conv_text (c := cp) (HT.out.keep HBW.out).sh
    obtain ⟨q2_0, q2_1, q2_2, q2_3, q2_4, q2_5, q2_6, q2_7, q2_8, q2_9, q2_10, q2_11, q2_12, q2_13, q2_14, q2_15⟩ := Arr.k8 F_p.out
    obtain ⟨x0a, x0b, x0c, -⟩ := id F_g.out
    obtain ⟨x1a, x1b, x1c, x1d, -⟩ := id F_s.out
    go_wp2_with fail
    clear x0a x0b x0c x1a x1b x1c x1d q2_0 q2_1 q2_2 q2_3 q2_4 q2_5 q2_6 q2_7 q2_8 q2_9 q2_10 q2_11 q2_12 q2_13 q2_14 q2_15
    refine (rLong_any _).mono ?_
    rintro e w1 ⟨rfl, rfl⟩
    obtain ⟨q2_0, q2_1, q2_2, q2_3, q2_4, q2_5, q2_6, q2_7, q2_8, q2_9, q2_10, q2_11, q2_12, q2_13, q2_14, q2_15⟩ := Arr.k8 F_p.out
    obtain ⟨x0a, x0b, x0c, -⟩ := id F_g.out
    obtain ⟨x1a, x1b, x1c, x1d, -⟩ := id F_s.out
    go_wp2_with fail
    clear hcv
    clear x0a x0b x0c x1a x1b x1c x1d q2_0 q2_1 q2_2 q2_3 q2_4 q2_5 q2_6 q2_7 q2_8 q2_9 q2_10 q2_11 q2_12 q2_13 q2_14 q2_15
    refine (pbitProve_any _ (HT.out.keep HBW.out) hP hQ hG y0 r0_ k0_ c_0 z0_ hn HC.out).mono ?_
    rintro e w2 ⟨rfl, hb2⟩
    replace F_g := Lib.hid (F_g.out.keep hb2)
    replace F_s := Lib.hid (F_s.out.keep hb2)
    replace F_p := Lib.hid (F_p.out.keep hb2)
    replace HBW := Lib.hid (HBW.out.trans (hb2.mono HBW.out.size))
    clear hb2
    have hzg := F_g.out.lt
    have hzs := F_s.out.lt
    have hzp := F_p.out.lt
    obtain ⟨q2_0, q2_1, q2_2, q2_3, q2_4, q2_5, q2_6, q2_7, q2_8, q2_9, q2_10, q2_11, q2_12, q2_13, q2_14, q2_15⟩ := Arr.k8 F_p.out
    obtain ⟨x0a, x0b, x0c, -⟩ := id F_g.out
    obtain ⟨x1a, x1b, x1c, x1d, -⟩ := id F_s.out
    go_wp2_with fail
    clear hzg hzs hzp
    replace F_g := Lib.hid (F_g.out.alloc (.cells #[.int .u64 e0, .int .u64 e1, .int .u64 e2, .int .u64 e3, .int .u64 e4, .int .u64 e5, .int .u64 e6, .int .u64 e7] 54))
    replace F_s := Lib.hid (F_s.out.alloc (.cells #[.int .u64 e0, .int .u64 e1, .int .u64 e2, .int .u64 e3, .int .u64 e4, .int .u64 e5, .int .u64 e6, .int .u64 e7] 54))
    replace F_p := Lib.hid (F_p.out.alloc (.cells #[.int .u64 e0, .int .u64 e1, .int .u64 e2, .int .u64 e3, .int .u64 e4, .int .u64 e5, .int .u64 e6, .int .u64 e7] 54))
    have F_x1 := Lib.hid (show Arr .u64 (w2.alloc (.cells #[.int .u64 e0, .int .u64 e1, .int .u64 e2, .int .u64 e3, .int .u64 e4, .int .u64 e5, .int .u64 e6, .int .u64 e7] 54)) (w2.heap.size) [e0, e1, e2, e3, e4, e5, e6, e7] from Arr.new .u64 w2 [e0, e1, e2, e3, e4, e5, e6, e7] _ _ rfl)
    replace HBW := Lib.hid (HBW.out.alloc HBW.out.size (.cells #[.int .u64 e0, .int .u64 e1, .int .u64 e2, .int .u64 e3, .int .u64 e4, .int .u64 e5, .int .u64 e6, .int .u64 e7] 54))
    clear x0a x0b x0c x1a x1b x1c x1d q2_0 q2_1 q2_2 q2_3 q2_4 q2_5 q2_6 q2_7 q2_8 q2_9 q2_10 q2_11 q2_12 q2_13 q2_14 q2_15
    refine (rbitProve_any _ (HT.out.keep HBW.out) hP hQ hG y0 r0_ k0_ c_0 z0_ hn HC.out).mono ?_
    rintro e w3 ⟨rfl, hb3⟩
    replace F_g := Lib.hid (F_g.out.keep hb3)
    replace F_s := Lib.hid (F_s.out.keep hb3)
    replace F_p := Lib.hid (F_p.out.keep hb3)
    replace F_x1 := Lib.hid (F_x1.out.keep hb3)
    replace HBW := Lib.hid (HBW.out.trans (hb3.mono HBW.out.size))
    clear hb3
    have hzg := F_g.out.lt
    have hzs := F_s.out.lt
    have hzp := F_p.out.lt
    have hz1 := F_x1.out.lt
    obtain ⟨q2_0, q2_1, q2_2, q2_3, q2_4, q2_5, q2_6, q2_7, q2_8, q2_9, q2_10, q2_11, q2_12, q2_13, q2_14, q2_15⟩ := Arr.k8 F_p.out
    obtain ⟨q3_0, q3_1, q3_2, q3_3, q3_4, q3_5, q3_6, q3_7, q3_8, q3_9, q3_10, q3_11, q3_12, q3_13, q3_14, q3_15⟩ := Arr.k8 F_x1.out
    obtain ⟨x0a, x0b, x0c, -⟩ := id F_g.out
    obtain ⟨x1a, x1b, x1c, x1d, -⟩ := id F_s.out
    go_wp2_with fail
    clear hzg hzs hzp hz1
    replace F_g := Lib.hid (F_g.out.alloc (.cells #[.int .u64 e0, .int .u64 e1, .int .u64 e2, .int .u64 e3, .int .u64 e4, .int .u64 e5, .int .u64 e6, .int .u64 e7] 54))
    replace F_s := Lib.hid (F_s.out.alloc (.cells #[.int .u64 e0, .int .u64 e1, .int .u64 e2, .int .u64 e3, .int .u64 e4, .int .u64 e5, .int .u64 e6, .int .u64 e7] 54))
    replace F_p := Lib.hid (F_p.out.alloc (.cells #[.int .u64 e0, .int .u64 e1, .int .u64 e2, .int .u64 e3, .int .u64 e4, .int .u64 e5, .int .u64 e6, .int .u64 e7] 54))
    replace F_x1 := Lib.hid (F_x1.out.alloc (.cells #[.int .u64 e0, .int .u64 e1, .int .u64 e2, .int .u64 e3, .int .u64 e4, .int .u64 e5, .int .u64 e6, .int .u64 e7] 54))
    have F_x2 := Lib.hid (show Arr .u64 (w3.alloc (.cells #[.int .u64 e0, .int .u64 e1, .int .u64 e2, .int .u64 e3, .int .u64 e4, .int .u64 e5, .int .u64 e6, .int .u64 e7] 54)) (w3.heap.size) [e0, e1, e2, e3, e4, e5, e6, e7] from Arr.new .u64 w3 [e0, e1, e2, e3, e4, e5, e6, e7] _ _ rfl)
    replace HBW := Lib.hid (HBW.out.alloc HBW.out.size (.cells #[.int .u64 e0, .int .u64 e1, .int .u64 e2, .int .u64 e3, .int .u64 e4, .int .u64 e5, .int .u64 e6, .int .u64 e7] 54))
    clear x0a x0b x0c x1a x1b x1c x1d q2_0 q2_1 q2_2 q2_3 q2_4 q2_5 q2_6 q2_7 q2_8 q2_9 q2_10 q2_11 q2_12 q2_13 q2_14 q2_15 q3_0 q3_1 q3_2 q3_3 q3_4 q3_5 q3_6 q3_7 q3_8 q3_9 q3_10 q3_11 q3_12 q3_13 q3_14 q3_15
    refine (bitHolds_any _ hP hQ hG y0 a0 b_0 c_0 r0_0 r1_0 s0_0 s1_0 c0_0 c1_0 z0_0 z1_0 rfl rfl rfl HH.out).mono ?_
    rintro e w4 ⟨rfl, hb4⟩
    replace F_g := Lib.hid (F_g.out.keep hb4)
    replace F_s := Lib.hid (F_s.out.keep hb4)
    replace F_p := Lib.hid (F_p.out.keep hb4)
    replace F_x1 := Lib.hid (F_x1.out.keep hb4)
    replace F_x2 := Lib.hid (F_x2.out.keep hb4)
    replace HBW := Lib.hid (HBW.out.trans (hb4.mono HBW.out.size))
    clear hb4
    obtain ⟨q2_0, q2_1, q2_2, q2_3, q2_4, q2_5, q2_6, q2_7, q2_8, q2_9, q2_10, q2_11, q2_12, q2_13, q2_14, q2_15⟩ := Arr.k8 F_p.out
    obtain ⟨q3_0, q3_1, q3_2, q3_3, q3_4, q3_5, q3_6, q3_7, q3_8, q3_9, q3_10, q3_11, q3_12, q3_13, q3_14, q3_15⟩ := Arr.k8 F_x1.out
    obtain ⟨q4_0, q4_1, q4_2, q4_3, q4_4, q4_5, q4_6, q4_7, q4_8, q4_9, q4_10, q4_11, q4_12, q4_13, q4_14, q4_15⟩ := Arr.k8 F_x2.out
    obtain ⟨x0a, x0b, x0c, -⟩ := id F_g.out
    obtain ⟨x1a, x1b, x1c, x1d, -⟩ := id F_s.out
    go_wp2_with fail
    clear x0a x0b x0c x1a x1b x1c x1d q2_0 q2_1 q2_2 q2_3 q2_4 q2_5 q2_6 q2_7 q2_8 q2_9 q2_10 q2_11 q2_12 q2_13 q2_14 q2_15 q3_0 q3_1 q3_2 q3_3 q3_4 q3_5 q3_6 q3_7 q3_8 q3_9 q3_10 q3_11 q3_12 q3_13 q3_14 q3_15 q4_0 q4_1 q4_2 q4_3 q4_4 q4_5 q4_6 q4_7 q4_8 q4_9 q4_10 q4_11 q4_12 q4_13 q4_14 q4_15
    refine (rbitHolds_any _ hP hQ hG y0 a0 b_0 r0_0 r1_0 s0_0 s1_0 c0_0 c1_0 z0_0 z1_0 c_0 HH.out).mono ?_
    rintro e w5 ⟨rfl, hb5⟩
    replace F_g := Lib.hid (F_g.out.keep hb5)
    replace F_s := Lib.hid (F_s.out.keep hb5)
    replace F_p := Lib.hid (F_p.out.keep hb5)
    replace F_x1 := Lib.hid (F_x1.out.keep hb5)
    replace F_x2 := Lib.hid (F_x2.out.keep hb5)
    replace HBW := Lib.hid (HBW.out.trans (hb5.mono HBW.out.size))
    clear hb5
    obtain ⟨q2_0, q2_1, q2_2, q2_3, q2_4, q2_5, q2_6, q2_7, q2_8, q2_9, q2_10, q2_11, q2_12, q2_13, q2_14, q2_15⟩ := Arr.k8 F_p.out
    obtain ⟨q3_0, q3_1, q3_2, q3_3, q3_4, q3_5, q3_6, q3_7, q3_8, q3_9, q3_10, q3_11, q3_12, q3_13, q3_14, q3_15⟩ := Arr.k8 F_x1.out
    obtain ⟨q4_0, q4_1, q4_2, q4_3, q4_4, q4_5, q4_6, q4_7, q4_8, q4_9, q4_10, q4_11, q4_12, q4_13, q4_14, q4_15⟩ := Arr.k8 F_x2.out
    obtain ⟨x0a, x0b, x0c, -⟩ := id F_g.out
    obtain ⟨x1a, x1b, x1c, x1d, -⟩ := id F_s.out
    go_wp2_with fail
    clear x0a x0b x0c x1a x1b x1c x1d q2_0 q2_1 q2_2 q2_3 q2_4 q2_5 q2_6 q2_7 q2_8 q2_9 q2_10 q2_11 q2_12 q2_13 q2_14 q2_15 q3_0 q3_1 q3_2 q3_3 q3_4 q3_5 q3_6 q3_7 q3_8 q3_9 q3_10 q3_11 q3_12 q3_13 q3_14 q3_15 q4_0 q4_1 q4_2 q4_3 q4_4 q4_5 q4_6 q4_7 q4_8 q4_9 q4_10 q4_11 q4_12 q4_13 q4_14 q4_15
    refine (pbitVerify_any _ (HT.out.keep HBW.out) hP hQ hG y0 a0 b_0 r0_0 r1_0 s0_0 s1_0 c0_0 c1_0 z0_0 z1_0 hn HV.out).mono ?_
    rintro e w6 ⟨rfl, hb6⟩
    replace F_g := Lib.hid (F_g.out.keep hb6)
    replace F_s := Lib.hid (F_s.out.keep hb6)
    replace F_p := Lib.hid (F_p.out.keep hb6)
    replace F_x1 := Lib.hid (F_x1.out.keep hb6)
    replace F_x2 := Lib.hid (F_x2.out.keep hb6)
    replace HBW := Lib.hid (HBW.out.trans (hb6.mono HBW.out.size))
    clear hb6
    obtain ⟨q2_0, q2_1, q2_2, q2_3, q2_4, q2_5, q2_6, q2_7, q2_8, q2_9, q2_10, q2_11, q2_12, q2_13, q2_14, q2_15⟩ := Arr.k8 F_p.out
    obtain ⟨q3_0, q3_1, q3_2, q3_3, q3_4, q3_5, q3_6, q3_7, q3_8, q3_9, q3_10, q3_11, q3_12, q3_13, q3_14, q3_15⟩ := Arr.k8 F_x1.out
    obtain ⟨q4_0, q4_1, q4_2, q4_3, q4_4, q4_5, q4_6, q4_7, q4_8, q4_9, q4_10, q4_11, q4_12, q4_13, q4_14, q4_15⟩ := Arr.k8 F_x2.out
    obtain ⟨x0a, x0b, x0c, -⟩ := id F_g.out
    obtain ⟨x1a, x1b, x1c, x1d, -⟩ := id F_s.out
    go_wp2_with fail
    clear x0a x0b x0c x1a x1b x1c x1d q2_0 q2_1 q2_2 q2_3 q2_4 q2_5 q2_6 q2_7 q2_8 q2_9 q2_10 q2_11 q2_12 q2_13 q2_14 q2_15 q3_0 q3_1 q3_2 q3_3 q3_4 q3_5 q3_6 q3_7 q3_8 q3_9 q3_10 q3_11 q3_12 q3_13 q3_14 q3_15 q4_0 q4_1 q4_2 q4_3 q4_4 q4_5 q4_6 q4_7 q4_8 q4_9 q4_10 q4_11 q4_12 q4_13 q4_14 q4_15
    refine (rbitVerify_any _ (HT.out.keep HBW.out) hP hQ hG y0 a0 b_0 r0_0 r1_0 s0_0 s1_0 c0_0 c1_0 z0_0 z1_0 hn HV.out).mono ?_
    rintro e w7 ⟨rfl, hb7⟩
    replace F_g := Lib.hid (F_g.out.keep hb7)
    replace F_s := Lib.hid (F_s.out.keep hb7)
    replace F_p := Lib.hid (F_p.out.keep hb7)
    replace F_x1 := Lib.hid (F_x1.out.keep hb7)
    replace F_x2 := Lib.hid (F_x2.out.keep hb7)
    replace HBW := Lib.hid (HBW.out.trans (hb7.mono HBW.out.size))
    clear hb7
    have hcv := conv_text (c := cp) (HT.out.keep HBW.out).sh
    obtain ⟨q2_0, q2_1, q2_2, q2_3, q2_4, q2_5, q2_6, q2_7, q2_8, q2_9, q2_10, q2_11, q2_12, q2_13, q2_14, q2_15⟩ := Arr.k8 F_p.out
    obtain ⟨q3_0, q3_1, q3_2, q3_3, q3_4, q3_5, q3_6, q3_7, q3_8, q3_9, q3_10, q3_11, q3_12, q3_13, q3_14, q3_15⟩ := Arr.k8 F_x1.out
    obtain ⟨q4_0, q4_1, q4_2, q4_3, q4_4, q4_5, q4_6, q4_7, q4_8, q4_9, q4_10, q4_11, q4_12, q4_13, q4_14, q4_15⟩ := Arr.k8 F_x2.out
    obtain ⟨x0a, x0b, x0c, -⟩ := id F_g.out
    obtain ⟨x1a, x1b, x1c, x1d, -⟩ := id F_s.out
    go_wp2_with fail
    go_ret
    exact ⟨rfl, HBW.out⟩


set_option maxRecDepth 100000 in
set_option maxHeartbeats 2000000 in
theorem lifted (os : Os) (started : os.Started) (H : Type) (enc : TypeId × Value → H) :
    ReturnsInHanded {} Tryd.checked os 6 .any (fun w args => (Rows.proofBitSpec.pre enc Tryd.prog Tryd.f6 [] false w args ∧ laidMetH Tryd.prog laidL w) ∧ sizedMet enc Tryd.prog Tryd.f6 (OpenSpec.ofChange Rows.proofBitSpec) false w args) (Rows.proofBitSpec.post enc Tryd.prog Tryd.f6 false true false false) := by
  refine returnsInHanded_of_change_and (C := Tryd.checked) (X := fun w _ => laidMetH Tryd.prog laidL w) (fun _ _ _ hh h => h.of_heap hh) own started (by kernel_rfl) Tryd.func6
    (ChangeSpec.witness_shaped (enc := enc) (C := Tryd.checked) (os := os) (X := fun w _ => laidMetH Tryd.prog laidL w) false (World.doorLaid Tryd.prog 19 os) #[.agg #[.int .u64 0, .int .u64 0, .int .u64 0], .int .u64 0, .int .i64 0, .int .u64 0, .int .u64 0, .int .u64 0, .int .u64 0, .agg #[.int .u64 0, .int .u64 0], .agg #[.int .u64 0, .int .u64 0, .int .u64 0, .int .u64 0, .int .u64 0, .int .u64 0, .int .u64 0, .int .u64 0], .slice none 0 0] 8 rfl (World.shaped_of_RefB (by kernel_rfl) (by kernel_rfl)) (by kernel_rfl) (by kernel_rfl) (by kernel_rfl) (door_met os _)) ?_
  intro W base args ds gs before hval0 hW _ _ hL _
  have hT := tabs_of_laid hL
  clear hL
  have hval : ∀ (j : Nat) t v, Tryd.f6.params[j]? = some t → args[j]? = some v → Value.okWide Tryd.prog W .any base t v := hval0
  have hW' := hW
  obtain ⟨p, q, hA0, hV, rfl, hfz, hnd⟩ := hW
  have hA : DataW.TrodAll enc Tryd.prog W 0 (fun _ => true) true Tryd.f6.params.toList args.toList ds p := hA0
  rw [Tryd.params6] at hA hval
  have hK := hA
  obtain ⟨v0, vs0, d0, ds0, p0, q0, hargs, rfl, rfl, h0, r0⟩ := trodAll_cons hA
  obtain ⟨v1, vs1, d1, ds1, p1, q1, rfl, rfl, rfl, h1, r1⟩ := trodAll_cons r0
  obtain ⟨v2, vs2, d2, ds2, p2, q2, rfl, rfl, rfl, h2, r2⟩ := trodAll_cons r1
  obtain ⟨v3, vs3, d3, ds3, p3, q3, rfl, rfl, rfl, h3, r3⟩ := trodAll_cons r2
  obtain ⟨v4, vs4, d4, ds4, p4, q4, rfl, rfl, rfl, h4, r4⟩ := trodAll_cons r3
  obtain ⟨v5, vs5, d5, ds5, p5, q5, rfl, rfl, rfl, h5, r5⟩ := trodAll_cons r4
  obtain ⟨v6, vs6, d6, ds6, p6, q6, rfl, rfl, rfl, h6, r6⟩ := trodAll_cons r5
  obtain ⟨v7, vs7, d7, ds7, p7, q7, rfl, rfl, rfl, h7, r7⟩ := trodAll_cons r6
  obtain ⟨v8, vs8, d8, ds8, p8, q8, rfl, rfl, rfl, h8, r8⟩ := trodAll_cons r7
  obtain ⟨v9, vs9, d9, ds9, p9, q9, rfl, rfl, rfl, h9, r9⟩ := trodAll_cons r8
  obtain ⟨rfl, rfl, rfl⟩ := trodAll_nil r9
  obtain rfl : args = #[v0, v1, v2, v3, v4, v5, v6, v7, v8, v9] := by cases args; simp_all
  obtain ⟨rfl, rfl⟩ := trodVars_none hV
  obtain ⟨P, Q, G, rfl, uP, uQ, uG⟩ := open_group (hval 0 24 v0 rfl rfl) h0
  obtain ⟨y, rfl, uy⟩ := open_u64 (hval 1 22 v1 rfl rfl) h1
  obtain ⟨bm, rfl, um⟩ := open_i64 (hval 2 3 v2 rfl rfl) h2
  obtain ⟨r, rfl, ur⟩ := open_u64 (hval 3 22 v3 rfl rfl) h3
  obtain ⟨k, rfl, uk⟩ := open_u64 (hval 4 22 v4 rfl rfl) h4
  obtain ⟨c, rfl, uc⟩ := open_u64 (hval 5 22 v5 rfl rfl) h5
  obtain ⟨z, rfl, uz⟩ := open_u64 (hval 6 22 v6 rfl rfl) h6
  obtain ⟨a, b, rfl, ua, ub⟩ := open_sealed (hval 7 51 v7 rfl rfl) h7
  obtain ⟨n_r0, n_r1, n_s0, n_s1, n_c0, n_c1, n_z0, n_z1, rfl, u_r0, u_r1, u_s0, u_s1, u_c0, u_c1, u_z0, u_z1⟩ := open_bit (hval 8 54 v8 rfl rfl) h8
  obtain ⟨tx, n, cp, T, rfl, ht, hb, hz, hnc⟩ := open_bytes (hval 9 27 v9 rfl rfl) h9
  clear hA0 hval0
  refine (walk P Q G y bm r k c z a b n_r0 n_r1 n_s0 n_s1 n_c0 n_c1 n_z0 n_z1 tx n cp T W uP uQ uG uy um ur uk uc uz ua ub u_r0 u_r1 u_s0 u_s1 u_c0 u_c1 u_z0 u_z1 ht hb hz hnc hT).mono fun e W' ⟨he, bel⟩ => ?_
  subst he
  exact ⟨_, rfl, _, _, _, [], _, [], hW', trodAll_mk1 (shut_bool Tryd.underlying4 _), trodAll_stays laidOut (by kernel_rfl) hK bel, rfl, bel.frame _, fun h => by cases h⟩

theorem over : Rows.proofBitRow.holds Tryd.pinned (OpenSpec.ofChange Rows.proofBitSpec) :=
  OpenClaim.holds_of_wide 6 Tryd.f6 rfl rfl rfl rfl rfl rfl rfl ⟨rfl, rfl, rfl, rfl, rfl⟩ rfl rfl rfl rfl rfl (by kernel_rfl) Tryd.func6 (by kernel_rfl)
    (of_decide_eq_true (by kernel_rfl)) (by unfold Func.isWrapper; first | (rw [if_pos (by decide +kernel)]; kernel_rfl) | (rw [if_neg (by decide +kernel)]; exact ⟨rfl, rfl⟩))
    (fun os started H enc _ => lifted os started H enc)

theorem proved : Rows.ProofBitCardSaid :=
  Claim7.holds_tied_plain_at .later [] [.data, .data] true (true, "4b41c1e4d249352bcdad7fb442f9b4095dc9194e4b92b27cabf601e235f481d5") false
    over (fun _ h => by cases h) (by kernel_rfl) (fun _ h => by cases h) proofBit_row_tie rfl ⟨rfl, rfl⟩ (by kernel_rfl) rfl
    (fun f fn hf hfn => by
      obtain rfl : f = 6 := Option.some.inj ((show Tryd.prog.funcNamed "suffrage/suffragelaw33.ProofBit" = some 6 by kernel_rfl).symm.trans hf) |>.symm
      obtain rfl : fn = Tryd.f6 := (Option.some.inj (Tryd.func6.symm.trans hfn)).symm
      exact ⟨by kernel_rfl, fun j t ht => by
        rw [Tryd.params6] at ht
        have hm : t ∈ ([24, 22, 3, 22, 22, 22, 22, 51, 54, 27] : List TypeId) := by simpa using Array.mem_of_getElem? ht
        have hall : (([24, 22, 3, 22, 22, 22, 22, 51, 54, 27] : List TypeId).all fun u => !Tryd.prog.wantsStandIn u) = true := by kernel_rfl
        exact (show Tryd.prog.wantsStandIn t = false by simpa using List.all_eq_true.1 hall t hm)⟩)
    (by kernel_rfl)
#print axioms proved
end Go.Proofs.YtmcpfinnhgbcpaaDoor.lawBit
