/- BoothSealing: the statement: for every input the law returns true, and the arguments read as before. -/
import Derived.Test.YtlbldpkgnonbpaaGreatDoorZq0
import Derived.Test.YtlbldpkgnonbpaaGreatDoorZqT
set_option linter.unusedSimpArgs false
set_option linter.unusedVariables false
set_option maxRecDepth 100000
namespace Go.Proofs.YtlbldpkgnonbpaaGreatDoor.lawSealing
open Go Sha Go.ChangeShapes Go.WideShapes Go.ChangeAt Go.RowKit Num
set_option maxHeartbeats 16000000 in
theorem walk (P Q G y n : Int) (a : Option Addr) (m c : Nat) (ms : List Int) (one : Bool) (seed : List Int) (V : Vt) (R : Rv) (w : World) (uP : U64 P) (uQ : U64 Q) (uG : U64 G) (uy : U64 y) (hn : -9223372036854775808 ≤ n ∧ n ≤ 9223372036854775807) (hS : ShI .i64 w a m ms) (hu : ∀ x, x ∈ ms → -9223372036854775808 ≤ x ∧ x ≤ 9223372036854775807) (hk : a = none → c = 0) (hm : m ≤ 9223372036854775807) (u1 : True) (hd1 : seed.length = 32) (hd2 : Bytes seed) (hV : VtIn w V) (hR : RvIn w R) (hT : Tabs w) :
    Calls Tryz.prog 3 #[.agg #[.int .u64 P, .int .u64 Q, .int .u64 G], .int .u64 y, .int .i64 n, .slice a m c, .bool one, .agg (valV .u8 seed), V.v, R.v] w fun e w' => e = .returned (.bool true) ∧ Below w.heap.size w w' := by
  have HS := Lh hS
  have HU := Lh hu
  have HD := Lh (And.intro hd1 hd2)
  have HSL := Lh hd1
  have HT := Lh hT
  have HV := Lh hV
  have HR := Lh hR
  have HML := Lh hS.len
  have HKC := Lh hk
  have HMM := Lh hm
  clear hS hu hd1 hd2 hT hn u1 hV hR hk hm
  have hP := uP.1
  have hQ := uQ.1
  have hG := uG.1
  have hy := uy.1
  clear uP uQ uG uy
  unfold Vt.v Rv.v
  have F_g := Lh (show Cl ((((w.alloc (.cells #[.int .u64 P, .int .u64 Q, .int .u64 G] 24)).alloc (.cells (valV .u8 seed) 26)).alloc (.cells V.ca 33)).alloc (.cells #[.slice R.a R.n R.c, .slice R.b R.m R.d] 36)) w.heap.size [.int .u64 P, .int .u64 Q, .int .u64 G] from (((Cl.at w [.int .u64 P, .int .u64 Q, .int .u64 G] 24 w.heap.size rfl).alloc _).alloc _).alloc _)
  have F_d := Lh (show Arr .u8 ((((w.alloc (.cells #[.int .u64 P, .int .u64 Q, .int .u64 G] 24)).alloc (.cells (valV .u8 seed) 26)).alloc (.cells V.ca 33)).alloc (.cells #[.slice R.a R.n R.c, .slice R.b R.m R.d] 36)) (w.heap.size + 1) seed from ((Arr.new .u8 (w.alloc (.cells #[.int .u64 P, .int .u64 Q, .int .u64 G] 24)) seed 26 (w.heap.size + 1) (by simp)).alloc _).alloc _)
  have F_v := Lh (show Cl ((((w.alloc (.cells #[.int .u64 P, .int .u64 Q, .int .u64 G] 24)).alloc (.cells (valV .u8 seed) 26)).alloc (.cells V.ca 33)).alloc (.cells #[.slice R.a R.n R.c, .slice R.b R.m R.d] 36)) (w.heap.size + 1 + 1) V.cl from (Cl.at ((w.alloc (.cells #[.int .u64 P, .int .u64 Q, .int .u64 G] 24)).alloc (.cells (valV .u8 seed) 26)) V.cl 33 (w.heap.size + 1 + 1) (by simp)).alloc _)
  have F_r := Lh (show Cl ((((w.alloc (.cells #[.int .u64 P, .int .u64 Q, .int .u64 G] 24)).alloc (.cells (valV .u8 seed) 26)).alloc (.cells V.ca 33)).alloc (.cells #[.slice R.a R.n R.c, .slice R.b R.m R.d] 36)) (w.heap.size + 1 + 1 + 1) [.slice R.a R.n R.c, .slice R.b R.m R.d] from Cl.at (((w.alloc (.cells #[.int .u64 P, .int .u64 Q, .int .u64 G] 24)).alloc (.cells (valV .u8 seed) 26)).alloc (.cells V.ca 33)) [.slice R.a R.n R.c, .slice R.b R.m R.d] 36 (w.heap.size + 1 + 1 + 1) (by simp))
  have HBW := Lh (show Below w.heap.size w ((((w.alloc (.cells #[.int .u64 P, .int .u64 Q, .int .u64 G] 24)).alloc (.cells (valV .u8 seed) 26)).alloc (.cells V.ca 33)).alloc (.cells #[.slice R.a R.n R.c, .slice R.b R.m R.d] 36)) from ((((Below.refl _ _).alloc (Nat.le_refl _) _).alloc (by simp) _).alloc (by simp; omega) _).alloc (by simp; omega) _)
  go_enter Tryz.func3, Tryz.ntmps3
  by_cases hq1 : 20 < m
  case pos =>
   have hd : decide ((20 : Int) < (m : Int)) = true := decide_eq_true (by omega)
   have q_v_0 := F_v.o.c 0 _ rfl
   have q_v_1 := F_v.o.c 1 _ rfl
   have q_v_2 := F_v.o.c 2 _ rfl
   have q_v_3 := F_v.o.c 3 _ rfl
   have q_v_4 := F_v.o.c 4 _ rfl
   have q_v_5 := F_v.o.c 5 _ rfl
   have q_v_6 := F_v.o.c 6 _ rfl
   have q_v_7 := F_v.o.c 7 _ rfl
   have q_v_8 := F_v.o.c 8 _ rfl
   have q_v_9 := F_v.o.c 9 _ rfl
   have q_v_10 := F_v.o.c 10 _ rfl
   go_wp2_with fail
   clear q_v_0 q_v_1 q_v_2 q_v_3 q_v_4 q_v_5 q_v_6 q_v_7 q_v_8 q_v_9 q_v_10
   go_ret
   exact ⟨rfl, HBW.o⟩
  case neg =>
  have hd1 : decide ((20 : Int) < (m : Int)) = false := decide_eq_false (by omega)
  have q_v_0 := F_v.o.c 0 _ rfl
  have q_v_1 := F_v.o.c 1 _ rfl
  have q_v_2 := F_v.o.c 2 _ rfl
  have q_v_3 := F_v.o.c 3 _ rfl
  have q_v_4 := F_v.o.c 4 _ rfl
  have q_v_5 := F_v.o.c 5 _ rfl
  have q_v_6 := F_v.o.c 6 _ rfl
  have q_v_7 := F_v.o.c 7 _ rfl
  have q_v_8 := F_v.o.c 8 _ rfl
  have q_v_9 := F_v.o.c 9 _ rfl
  have q_v_10 := F_v.o.c 10 _ rfl
  go_wp2_with fail
  clear q_v_0 q_v_1 q_v_2 q_v_3 q_v_4 q_v_5 q_v_6 q_v_7 q_v_8 q_v_9 q_v_10
  refine (greatV_any (V := V) _).mono ?_
  rintro e w1 ⟨rfl, hb1⟩
  replace F_g := Lh (F_g.o.keep hb1)
  replace F_d := Lh (F_d.o.keep hb1)
  replace F_v := Lh (F_v.o.keep hb1)
  replace F_r := Lh (F_r.o.keep hb1)
  replace HBW := Lh (HBW.o.trans (hb1.mono HBW.o.size))
  clear hb1
  cases hg : greatV V with
  | true =>
   go_wp2_with fail
   go_ret
   exact ⟨rfl, HBW.o⟩
  | false =>
  clear hg
  by_cases hq2 : 20 < R.n
  case pos =>
   have hd : decide ((20 : Int) < (R.n : Int)) = true := decide_eq_true (by omega)
   have q_r_0 := F_r.o.c 0 _ rfl
   have q_r_1 := F_r.o.c 1 _ rfl
   go_wp2_with fail
   clear q_r_0 q_r_1
   go_ret
   exact ⟨rfl, HBW.o⟩
  case neg =>
  have hd2 : decide ((20 : Int) < (R.n : Int)) = false := decide_eq_false (by omega)
  by_cases hq3 : 20 < R.m
  case pos =>
   have hd : decide ((20 : Int) < (R.m : Int)) = true := decide_eq_true (by omega)
   have q_r_0 := F_r.o.c 0 _ rfl
   have q_r_1 := F_r.o.c 1 _ rfl
   go_wp2_with fail
   clear q_r_0 q_r_1
   go_ret
   exact ⟨rfl, HBW.o⟩
  case neg =>
  have hd3 : decide ((20 : Int) < (R.m : Int)) = false := decide_eq_false (by omega)
  have q_r_0 := F_r.o.c 0 _ rfl
  have q_r_1 := F_r.o.c 1 _ rfl
  have q_g_0 := F_g.o.c 0 _ rfl
  have q_g_1 := F_g.o.c 1 _ rfl
  have q_g_2 := F_g.o.c 2 _ rfl
  go_wp2_with (refine wpL_loadArr rfl 26 .u8 (.tmp 13) (w.heap.size + 1) seed 32 5 rfl rfl Tryz.underlying26 (by rw [HSL.o]; kernel_rfl) F_d.o ?_; simp only [sY])
  clear q_r_0 q_r_1 q_g_0 q_g_1 q_g_2
  refine (seal_any _ (HT.o.below HBW.o) hP hQ hG hy (HS.o.keep HBW.o) HKC.o HU.o HMM.o HD.o.1 HD.o.2).mono ?_
  rintro e w2 hse
  obtain ⟨hb1, V1, R1, er1, rfl, hv, hr, ht⟩ := hse.told
  clear hse
  have HV1 := Lh hv
  have HR1 := Lh hr
  have HT1 := Lh ht
  clear hv hr ht
  replace F_g := Lh (F_g.o.keep hb1)
  replace F_d := Lh (F_d.o.keep hb1)
  replace F_v := Lh (F_v.o.keep hb1)
  replace F_r := Lh (F_r.o.keep hb1)
  replace HBW := Lh (HBW.o.trans (hb1.mono HBW.o.size))
  clear hb1
  unfold Vt.v Rv.v
  have F_v0 := Lh (show Cl ((w2.alloc (.cells #[.slice none 0 0, .slice none 0 0, .bool false, .int .u64 0, .int .u64 0, .int .u64 0, .int .u64 0, .int .u64 0, .int .u64 0, .int .u64 0, .int .u64 0] 33)).alloc (.cells #[.slice none 0 0, .slice none 0 0] 36)) w2.heap.size [.slice none 0 0, .slice none 0 0, .bool false, .int .u64 0, .int .u64 0, .int .u64 0, .int .u64 0, .int .u64 0, .int .u64 0, .int .u64 0, .int .u64 0] from (Cl.at w2 _ 33 w2.heap.size rfl).alloc _)
  have F_r0 := Lh (show Cl ((w2.alloc (.cells #[.slice none 0 0, .slice none 0 0, .bool false, .int .u64 0, .int .u64 0, .int .u64 0, .int .u64 0, .int .u64 0, .int .u64 0, .int .u64 0, .int .u64 0] 33)).alloc (.cells #[.slice none 0 0, .slice none 0 0] 36)) (w2.heap.size + 1) [.slice none 0 0, .slice none 0 0] from Cl.at (w2.alloc (.cells #[.slice none 0 0, .slice none 0 0, .bool false, .int .u64 0, .int .u64 0, .int .u64 0, .int .u64 0, .int .u64 0, .int .u64 0, .int .u64 0, .int .u64 0] 33)) [.slice none 0 0, .slice none 0 0] 36 (w2.heap.size + 1) (by simp))
  have HAA := Lh (show Below w2.heap.size w2 ((w2.alloc (.cells #[.slice none 0 0, .slice none 0 0, .bool false, .int .u64 0, .int .u64 0, .int .u64 0, .int .u64 0, .int .u64 0, .int .u64 0, .int .u64 0, .int .u64 0] 33)).alloc (.cells #[.slice none 0 0, .slice none 0 0] 36)) from ((Below.refl _ _).alloc (Nat.le_refl _) _).alloc (by simp) _)
  have HZAA := Lh (show ((w2.alloc (.cells #[.slice none 0 0, .slice none 0 0, .bool false, .int .u64 0, .int .u64 0, .int .u64 0, .int .u64 0, .int .u64 0, .int .u64 0, .int .u64 0, .int .u64 0] 33)).alloc (.cells #[.slice none 0 0, .slice none 0 0] 36)).heap.size = w2.heap.size + 1 + 1 by simp)
  go_wp2_with (first
    | (refine wpL_storeCl rfl 33 (.tmp 17) (.tmp 54) w2.heap.size 0 _ [.slice V1.a V1.n V1.c, .slice V1.b V1.m V1.d, .bool V1.one, .int .u64 V1.z.r0, .int .u64 V1.z.r1, .int .u64 V1.z.s0, .int .u64 V1.z.s1, .int .u64 V1.z.c0, .int .u64 V1.z.c1, .int .u64 V1.z.z0, .int .u64 V1.z.z1] [.slice V1.a V1.n V1.c, .slice V1.b V1.m V1.d, .bool V1.one, .int .u64 V1.z.r0, .int .u64 V1.z.r1, .int .u64 V1.z.s0, .int .u64 V1.z.s1, .int .u64 V1.z.c0, .int .u64 V1.z.c1, .int .u64 V1.z.z0, .int .u64 V1.z.z1] rfl rfl rfl rfl (by kernel_rfl) (by intro u hu; simp at hu; rcases hu with rfl | rfl | rfl | rfl | rfl | rfl | rfl | rfl | rfl | rfl | rfl <;> rfl) F_v0.o (by simp) rfl ?_
       intro wx hc8 hg8 hz8
       have F_a := Lh hc8
       have HGx := Lh hg8
       have hz_wx := hz8
       clear hc8 hg8 hz8)
    | (refine wpL_storeCl rfl 36 (.tmp 18) (.tmp 55) (w2.heap.size + 1) 0 _ [.slice R1.a R1.n R1.c, .slice R1.b R1.m R1.d] [.slice R1.a R1.n R1.c, .slice R1.b R1.m R1.d] rfl rfl rfl rfl (by kernel_rfl) (by intro u hu; simp at hu; rcases hu with rfl | rfl <;> rfl) (F_r0.o.gro HGx.o (by omega)) (by simp) rfl ?_
       intro w3 hc8 hg8 hz8
       have F_b := Lh hc8
       have HGz := Lh hg8
       have hz_wz := hz8
       replace F_a := Lh (F_a.o.gro HGz.o (by omega))
       have hbz : Below w2.heap.size w2 w3 := (HAA.o.trans (HGx.o.blw (n := w2.heap.size) (Nat.le_refl _) HAA.o.size)).trans (HGz.o.blw (n := w2.heap.size) (by omega) (by have := HAA.o.size; omega))
       replace F_g := Lh (F_g.o.keep hbz)
       replace F_d := Lh (F_d.o.keep hbz)
       replace F_v := Lh (F_v.o.keep hbz)
       replace F_r := Lh (F_r.o.keep hbz)
       replace HV1 := Lh (HV1.o.keep hbz)
       replace HR1 := Lh (HR1.o.keep hbz)
       replace HBW := Lh (HBW.o.trans (hbz.mono HBW.o.size))
       clear hbz HGx HGz hz_wx hz_wz F_v0 F_r0 HAA HZAA hc8 hg8 hz8
       have q_g_0 := F_g.o.c 0 _ rfl
       have q_g_1 := F_g.o.c 1 _ rfl
       have q_g_2 := F_g.o.c 2 _ rfl)
    | (refine wpL_loadArr rfl 26 .u8 (.tmp 13) (w.heap.size + 1) seed 32 5 rfl rfl Tryz.underlying26 (by rw [HSL.o]; kernel_rfl) F_d.o ?_; simp only [sY]))
  clear q_g_0 q_g_1 q_g_2
  refine (rSeal36_any _ (HT.o.below HBW.o) hP hQ hG hy (HS.o.keep HBW.o) HU.o (by omega) HD.o.1 HD.o.2).mono ?_
  rintro e w4 hse
  obtain ⟨hb2, V2, R2, er2, rfl, hv, hr, ht⟩ := hse.told
  clear hse
  have HV2 := Lh hv
  have HR2 := Lh hr
  have HT2 := Lh ht
  clear hv hr ht
  replace F_g := Lh (F_g.o.keep hb2)
  replace F_d := Lh (F_d.o.keep hb2)
  replace F_v := Lh (F_v.o.keep hb2)
  replace F_r := Lh (F_r.o.keep hb2)
  replace HV1 := Lh (HV1.o.keep hb2)
  replace HR1 := Lh (HR1.o.keep hb2)
  replace F_a := Lh (F_a.o.keep hb2)
  replace F_b := Lh (F_b.o.keep hb2)
  replace HBW := Lh (HBW.o.trans (hb2.mono HBW.o.size))
  clear hb2
  unfold Vt.v Rv.v
  have F_v0 := Lh (show Cl ((w4.alloc (.cells #[.slice none 0 0, .slice none 0 0, .bool false, .int .u64 0, .int .u64 0, .int .u64 0, .int .u64 0, .int .u64 0, .int .u64 0, .int .u64 0, .int .u64 0] 33)).alloc (.cells #[.slice none 0 0, .slice none 0 0] 36)) w4.heap.size [.slice none 0 0, .slice none 0 0, .bool false, .int .u64 0, .int .u64 0, .int .u64 0, .int .u64 0, .int .u64 0, .int .u64 0, .int .u64 0, .int .u64 0] from (Cl.at w4 _ 33 w4.heap.size rfl).alloc _)
  have F_r0 := Lh (show Cl ((w4.alloc (.cells #[.slice none 0 0, .slice none 0 0, .bool false, .int .u64 0, .int .u64 0, .int .u64 0, .int .u64 0, .int .u64 0, .int .u64 0, .int .u64 0, .int .u64 0] 33)).alloc (.cells #[.slice none 0 0, .slice none 0 0] 36)) (w4.heap.size + 1) [.slice none 0 0, .slice none 0 0] from Cl.at (w4.alloc (.cells #[.slice none 0 0, .slice none 0 0, .bool false, .int .u64 0, .int .u64 0, .int .u64 0, .int .u64 0, .int .u64 0, .int .u64 0, .int .u64 0, .int .u64 0] 33)) [.slice none 0 0, .slice none 0 0] 36 (w4.heap.size + 1) (by simp))
  have HAA := Lh (show Below w4.heap.size w4 ((w4.alloc (.cells #[.slice none 0 0, .slice none 0 0, .bool false, .int .u64 0, .int .u64 0, .int .u64 0, .int .u64 0, .int .u64 0, .int .u64 0, .int .u64 0, .int .u64 0] 33)).alloc (.cells #[.slice none 0 0, .slice none 0 0] 36)) from ((Below.refl _ _).alloc (Nat.le_refl _) _).alloc (by simp) _)
  have HZAA := Lh (show ((w4.alloc (.cells #[.slice none 0 0, .slice none 0 0, .bool false, .int .u64 0, .int .u64 0, .int .u64 0, .int .u64 0, .int .u64 0, .int .u64 0, .int .u64 0, .int .u64 0] 33)).alloc (.cells #[.slice none 0 0, .slice none 0 0] 36)).heap.size = w4.heap.size + 1 + 1 by simp)
  go_wp2_with (first
    | (refine wpL_storeCl rfl 33 (.tmp 20) (.tmp 65) w4.heap.size 0 _ [.slice V2.a V2.n V2.c, .slice V2.b V2.m V2.d, .bool V2.one, .int .u64 V2.z.r0, .int .u64 V2.z.r1, .int .u64 V2.z.s0, .int .u64 V2.z.s1, .int .u64 V2.z.c0, .int .u64 V2.z.c1, .int .u64 V2.z.z0, .int .u64 V2.z.z1] [.slice V2.a V2.n V2.c, .slice V2.b V2.m V2.d, .bool V2.one, .int .u64 V2.z.r0, .int .u64 V2.z.r1, .int .u64 V2.z.s0, .int .u64 V2.z.s1, .int .u64 V2.z.c0, .int .u64 V2.z.c1, .int .u64 V2.z.z0, .int .u64 V2.z.z1] rfl rfl rfl rfl (by kernel_rfl) (by intro u hu; simp at hu; rcases hu with rfl | rfl | rfl | rfl | rfl | rfl | rfl | rfl | rfl | rfl | rfl <;> rfl) F_v0.o (by simp) rfl ?_
       intro wx hc8 hg8 hz8
       have F_c := Lh hc8
       have HGx := Lh hg8
       have hz_wx := hz8
       clear hc8 hg8 hz8)
    | (refine wpL_storeCl rfl 36 (.tmp 21) (.tmp 66) (w4.heap.size + 1) 0 _ [.slice R2.a R2.n R2.c, .slice R2.b R2.m R2.d] [.slice R2.a R2.n R2.c, .slice R2.b R2.m R2.d] rfl rfl rfl rfl (by kernel_rfl) (by intro u hu; simp at hu; rcases hu with rfl | rfl <;> rfl) (F_r0.o.gro HGx.o (by omega)) (by simp) rfl ?_
       intro w5 hc8 hg8 hz8
       have F_e := Lh hc8
       have HGz := Lh hg8
       have hz_wz := hz8
       replace F_c := Lh (F_c.o.gro HGz.o (by omega))
       have hbz : Below w4.heap.size w4 w5 := (HAA.o.trans (HGx.o.blw (n := w4.heap.size) (Nat.le_refl _) HAA.o.size)).trans (HGz.o.blw (n := w4.heap.size) (by omega) (by have := HAA.o.size; omega))
       replace F_g := Lh (F_g.o.keep hbz)
       replace F_d := Lh (F_d.o.keep hbz)
       replace F_v := Lh (F_v.o.keep hbz)
       replace F_r := Lh (F_r.o.keep hbz)
       replace HV1 := Lh (HV1.o.keep hbz)
       replace HR1 := Lh (HR1.o.keep hbz)
       replace F_a := Lh (F_a.o.keep hbz)
       replace F_b := Lh (F_b.o.keep hbz)
       replace HV2 := Lh (HV2.o.keep hbz)
       replace HR2 := Lh (HR2.o.keep hbz)
       replace HBW := Lh (HBW.o.trans (hbz.mono HBW.o.size))
       clear hbz HGx HGz hz_wx hz_wz F_v0 F_r0 HAA HZAA hc8 hg8 hz8
       have q_g_0 := F_g.o.c 0 _ rfl
       have q_g_1 := F_g.o.c 1 _ rfl
       have q_g_2 := F_g.o.c 2 _ rfl
       have q_v_0 := F_v.o.c 0 _ rfl
       have q_v_1 := F_v.o.c 1 _ rfl
       have q_v_2 := F_v.o.c 2 _ rfl
       have q_v_3 := F_v.o.c 3 _ rfl
       have q_v_4 := F_v.o.c 4 _ rfl
       have q_v_5 := F_v.o.c 5 _ rfl
       have q_v_6 := F_v.o.c 6 _ rfl
       have q_v_7 := F_v.o.c 7 _ rfl
       have q_v_8 := F_v.o.c 8 _ rfl
       have q_v_9 := F_v.o.c 9 _ rfl
       have q_v_10 := F_v.o.c 10 _ rfl
       have q_r_0 := F_r.o.c 0 _ rfl
       have q_r_1 := F_r.o.c 1 _ rfl)
    | (refine wpL_loadArr rfl 26 .u8 (.tmp 13) (w.heap.size + 1) seed 32 5 rfl rfl Tryz.underlying26 (by rw [HSL.o]; kernel_rfl) F_d.o ?_; simp only [sY]))
  clear q_g_0 q_g_1 q_g_2 q_v_0 q_v_1 q_v_2 q_v_3 q_v_4 q_v_5 q_v_6 q_v_7 q_v_8 q_v_9 q_v_10 q_r_0 q_r_1
  have HSM := Lh (HT1.o.same HT2.o HV1.o HV2.o)
  have HFW := Lh (HT1.o.few (by have := HML.o; omega))
  refine (matches_any (n := n) (V := V) (R := R) _ (HT.o.below HBW.o) hP hQ hG hy (HV.o.keep HBW.o) (HR.o.keep HBW.o) (by omega)).mono ?_
  rintro e w6 hma
  have HMA := Lh hma
  obtain ⟨hb6, bm, em, rfl, -, -⟩ := hma.told
  clear hma
  replace F_g := Lh (F_g.o.keep hb6)
  replace F_d := Lh (F_d.o.keep hb6)
  replace F_v := Lh (F_v.o.keep hb6)
  replace F_r := Lh (F_r.o.keep hb6)
  replace HV1 := Lh (HV1.o.keep hb6)
  replace HR1 := Lh (HR1.o.keep hb6)
  replace F_a := Lh (F_a.o.keep hb6)
  replace F_b := Lh (F_b.o.keep hb6)
  replace HV2 := Lh (HV2.o.keep hb6)
  replace HR2 := Lh (HR2.o.keep hb6)
  replace F_c := Lh (F_c.o.keep hb6)
  replace F_e := Lh (F_e.o.keep hb6)
  replace HBW := Lh (HBW.o.trans (hb6.mono HBW.o.size))
  clear hb6
  have q_g_0 := F_g.o.c 0 _ rfl
  have q_g_1 := F_g.o.c 1 _ rfl
  have q_g_2 := F_g.o.c 2 _ rfl
  have q_v_0 := F_v.o.c 0 _ rfl
  have q_v_1 := F_v.o.c 1 _ rfl
  have q_v_2 := F_v.o.c 2 _ rfl
  have q_v_3 := F_v.o.c 3 _ rfl
  have q_v_4 := F_v.o.c 4 _ rfl
  have q_v_5 := F_v.o.c 5 _ rfl
  have q_v_6 := F_v.o.c 6 _ rfl
  have q_v_7 := F_v.o.c 7 _ rfl
  have q_v_8 := F_v.o.c 8 _ rfl
  have q_v_9 := F_v.o.c 9 _ rfl
  have q_v_10 := F_v.o.c 10 _ rfl
  have q_r_0 := F_r.o.c 0 _ rfl
  have q_r_1 := F_r.o.c 1 _ rfl
  go_wp2_with fail
  clear q_g_0 q_g_1 q_g_2 q_v_0 q_v_1 q_v_2 q_v_3 q_v_4 q_v_5 q_v_6 q_v_7 q_v_8 q_v_9 q_v_10 q_r_0 q_r_1
  refine (rMatches36_any (n := n) (V := V) (R := R) _ hP hQ hG hy (HV.o.keep HBW.o) (HR.o.keep HBW.o) (by omega) (by omega)).mono ?_
  rintro e w7 hmb
  obtain rfl : e = .returned (.tuple #[.bool bm, .int .i64 em]) := hmb.same HMA.o
  have hb7 := hmb.1
  clear hmb HMA
  replace F_g := Lh (F_g.o.keep hb7)
  replace F_d := Lh (F_d.o.keep hb7)
  replace F_v := Lh (F_v.o.keep hb7)
  replace F_r := Lh (F_r.o.keep hb7)
  replace HV1 := Lh (HV1.o.keep hb7)
  replace HR1 := Lh (HR1.o.keep hb7)
  replace F_a := Lh (F_a.o.keep hb7)
  replace F_b := Lh (F_b.o.keep hb7)
  replace HV2 := Lh (HV2.o.keep hb7)
  replace HR2 := Lh (HR2.o.keep hb7)
  replace F_c := Lh (F_c.o.keep hb7)
  replace F_e := Lh (F_e.o.keep hb7)
  replace HBW := Lh (HBW.o.trans (hb7.mono HBW.o.size))
  clear hb7
  go_wp2_with fail
  obtain ⟨ec, hec⟩ := checkP.exists P Q G y n V
  have HEC := Lh hec
  clear hec
  obtain rfl : er1 = er2 := HSM.o.1
  replace F_g := Lh (F_g.o.keep (Below.refl _ _).drew)
  replace F_d := Lh (F_d.o.keep (Below.refl _ _).drew)
  replace F_v := Lh (F_v.o.keep (Below.refl _ _).drew)
  replace F_r := Lh (F_r.o.keep (Below.refl _ _).drew)
  replace HV1 := Lh (HV1.o.keep (Below.refl _ _).drew)
  replace HR1 := Lh (HR1.o.keep (Below.refl _ _).drew)
  replace F_a := Lh (F_a.o.keep (Below.refl _ _).drew)
  replace F_b := Lh (F_b.o.keep (Below.refl _ _).drew)
  replace HV2 := Lh (HV2.o.keep (Below.refl _ _).drew)
  replace HR2 := Lh (HR2.o.keep (Below.refl _ _).drew)
  replace F_c := Lh (F_c.o.keep (Below.refl _ _).drew)
  replace F_e := Lh (F_e.o.keep (Below.refl _ _).drew)
  replace HBW := Lh HBW.o.drew
  have hS0 := And.intro F_g.o (And.intro F_v.o (And.intro F_a.o (And.intro F_b.o (And.intro F_c.o F_e.o))))
  refine wp_region_stage 36 (fun w' => Cl w' w.heap.size [.int .u64 P, .int .u64 Q, .int .u64 G] ∧ Cl w' (w.heap.size + 1 + 1) V.cl ∧ Cl w' w2.heap.size [.slice V1.a V1.n V1.c, .slice V1.b V1.m V1.d, .bool V1.one, .int .u64 V1.z.r0, .int .u64 V1.z.r1, .int .u64 V1.z.s0, .int .u64 V1.z.s1, .int .u64 V1.z.c0, .int .u64 V1.z.c1, .int .u64 V1.z.z0, .int .u64 V1.z.z1] ∧ Cl w' (w2.heap.size + 1) [.slice R1.a R1.n R1.c, .slice R1.b R1.m R1.d] ∧ Cl w' w4.heap.size [.slice V2.a V2.n V2.c, .slice V2.b V2.m V2.d, .bool V2.one, .int .u64 V2.z.r0, .int .u64 V2.z.r1, .int .u64 V2.z.s0, .int .u64 V2.z.s1, .int .u64 V2.z.c0, .int .u64 V2.z.c1, .int .u64 V2.z.z0, .int .u64 V2.z.z1] ∧ Cl w' (w4.heap.size + 1) [.slice R2.a R2.n R2.c, .slice R2.b R2.m R2.d]) (by kernel_rfl) ?_
  refine tkL (i := 0) (some 86) (.load 33 (.tmp 17)) 33 [2, 3, 4, 5, 6, 7, 8, 9, 10, 11, 12, 13, 14, 15, 16, 17, 18, 19, 20, 21, 22, 23, 24, 25, 26, 27, 28, 29, 30, 31, 32, 33, 34, 35, 36] (v := ?_) hS0 (fun w' hSw => ?_) ?_
  rotate_left
  · obtain ⟨⟨a0, a1, a2, a3, a4, a5, a6, a7, a8, a9, a10⟩, -⟩ := hSw.2.2.1.k11
    unfold bareOp; go_simp; try with_reducible rfl
  simp only [sY]
  refine tkL (i := 1) (some 87) (.load 33 (.tmp 20)) 33 [2, 3, 4, 5, 6, 7, 8, 9, 10, 11, 12, 13, 14, 15, 16, 17, 18, 19, 20, 21, 22, 23, 24, 25, 26, 27, 28, 29, 30, 31, 32, 33, 34, 35, 36] (v := ?_) hS0 (fun w' hSw => ?_) ?_
  rotate_left
  · obtain ⟨⟨c0, c1, c2, c3, c4, c5, c6, c7, c8, c9, c10⟩, -⟩ := hSw.2.2.2.2.1.k11
    unfold bareOp; go_simp; try with_reducible rfl
  simp only [sY]
  refine onl (i := 2) (some 88) (.call { callee := .value (.func 10), args := #[.tmp 86, .tmp 87], argTypes := #[33, 33] }) 4 (fun K hK => ?_)
  unfold bareOp
  refine OpW.out (wp_of_enter (run_call _ _ _ _ 10 Tryz.func10 (vs := #[V1.v, V2.v]) (by simp only [List.map_toArray, List.map_cons, List.map_nil]; rfl) rfl (by kernel_rfl) (by kernel_rfl)) (rSame_any (V := V1) (U := V2) _ HV1.o HV2.o HSM.o.2.1 HSM.o.2.2.1 HSM.o.2.2.2.1 HSM.o.2.2.2.2.1 (by have := HFW.o; omega) (by have := HFW.o; omega)) ?_)
  rintro e w8 ⟨rfl, hb7⟩
  refine ⟨_, rfl, ?_⟩
  replace F_g := Lh (F_g.o.keep hb7)
  replace F_d := Lh (F_d.o.keep hb7)
  replace F_v := Lh (F_v.o.keep hb7)
  replace F_r := Lh (F_r.o.keep hb7)
  replace HV1 := Lh (HV1.o.keep hb7)
  replace HR1 := Lh (HR1.o.keep hb7)
  replace F_a := Lh (F_a.o.keep hb7)
  replace F_b := Lh (F_b.o.keep hb7)
  replace HV2 := Lh (HV2.o.keep hb7)
  replace HR2 := Lh (HR2.o.keep hb7)
  replace F_c := Lh (F_c.o.keep hb7)
  replace F_e := Lh (F_e.o.keep hb7)
  replace HBW := Lh (HBW.o.trans (hb7.mono HBW.o.size))
  clear hb7 hS0
  have hS0 := And.intro F_g.o (And.intro F_v.o (And.intro F_a.o (And.intro F_b.o (And.intro F_c.o F_e.o))))
  refine hK.o _ _ (fun _ => hS0) ?_
  clear hK K
  try simp only [sY]
  refine tkP (i := 3) (some 89) (.move (.tmp 88)) 4 (fun _ => hS0) ?_
  simp only [sY]
  refine tkLG (i := 4) (some 90) (.load 36 (.tmp 18)) 36 (some (3, true)) [6, 7, 8, 9, 10, 11, 12, 13, 14, 15, 16, 17, 18, 19, 20, 21, 22, 23, 24, 25, 26, 27, 28, 29, 30, 31, 32, 33, 34, 35, 36] (v := ?_) hS0 (fun w' hSw => ?_) ?_
  rotate_left
  · have b0_ := hSw.2.2.2.1.c 0 _ rfl; have b1_ := hSw.2.2.2.1.c 1 _ rfl
    unfold bareOp; go_simp; try with_reducible rfl
  simp only [sY]
  refine tkLG (i := 5) (some 91) (.load 36 (.tmp 21)) 36 (some (3, true)) [6, 7, 8, 9, 10, 11, 12, 13, 14, 15, 16, 17, 18, 19, 20, 21, 22, 23, 24, 25, 26, 27, 28, 29, 30, 31, 32, 33, 34, 35, 36] (v := ?_) hS0 (fun w' hSw => ?_) ?_
  rotate_left
  · have b0_ := hSw.2.2.2.2.2.c 0 _ rfl; have b1_ := hSw.2.2.2.2.2.c 1 _ rfl
    unfold bareOp; go_simp; try with_reducible rfl
  simp only [sY]
  refine wpAnyB_onlyG (i := 6) (some 92) (.call { callee := .value (.func 11), args := #[.tmp 90, .tmp 91], argTypes := #[36, 36] }) 4 (some (3, true)) ⟨_, rfl, rfl, rfl, rfl, rfl⟩ (by kernel_rfl) rfl (fun K hK => ?_)
  unfold bareOp
  refine OpW.out (wp_of_enter (run_call _ _ _ _ 11 Tryz.func11 (vs := #[R1.v, R2.v]) (by simp only [List.map_toArray, List.map_cons, List.map_nil]; rfl) rfl (by kernel_rfl) (by kernel_rfl)) (rReveal_any (R := R1) (S := R2) _ HR1.o HR2.o HSM.o.2.2.2.2.2.1 HSM.o.2.2.2.2.2.2 (by have := HFW.o; omega) (by have := HFW.o; omega)) ?_)
  rintro e w8 ⟨rfl, hb7⟩
  refine ⟨_, rfl, ?_⟩
  replace F_g := Lh (F_g.o.keep hb7)
  replace F_d := Lh (F_d.o.keep hb7)
  replace F_v := Lh (F_v.o.keep hb7)
  replace F_r := Lh (F_r.o.keep hb7)
  replace HV1 := Lh (HV1.o.keep hb7)
  replace HR1 := Lh (HR1.o.keep hb7)
  replace F_a := Lh (F_a.o.keep hb7)
  replace F_b := Lh (F_b.o.keep hb7)
  replace HV2 := Lh (HV2.o.keep hb7)
  replace HR2 := Lh (HR2.o.keep hb7)
  replace F_c := Lh (F_c.o.keep hb7)
  replace F_e := Lh (F_e.o.keep hb7)
  replace HBW := Lh (HBW.o.trans (hb7.mono HBW.o.size))
  clear hb7 hS0
  have hS0 := And.intro F_g.o (And.intro F_v.o (And.intro F_a.o (And.intro F_b.o (And.intro F_c.o F_e.o))))
  refine hK.o _ _ (fun _ => hS0) ?_
  clear hK K
  try simp only [sY]
  refine tkP (i := 7) (some 93) (.pick (.tmp 89) (.tmp 92) (.const (.bool false))) 4 (fun _ => hS0) ?_
  simp only [sY]
  refine tkP (i := 8) (some 94) (.move (.tmp 93)) 4 (fun _ => hS0) ?_
  simp only [sY]
  refine tkPG (i := 9) (some 95) (.move (.tmp 19)) 38 (some (8, true)) (fun _ => hS0) ?_
  simp only [sY]
  refine tkPG (i := 10) (some 96) (.move (.tmp 22)) 3 (some (8, true)) (fun _ => hS0) ?_
  simp only [sY]
  refine tkPG (i := 11) (some 97) (.binOp .eql 3 (.tmp 95) (.tmp 96) 3) 4 (some (8, true)) (fun _ => hS0) ?_
  simp only [sY]
  refine tkP (i := 12) (some 98) (.pick (.tmp 94) (.tmp 97) (.const (.bool false))) 4 (fun _ => hS0) ?_
  simp only [sY]
  refine tkP (i := 13) (some 99) (.move (.tmp 98)) 4 (fun _ => hS0) ?_
  simp only [sY]
  refine tkLG (i := 14) (some 100) (.load 24 (.tmp 8)) 24 (some (13, true)) [18, 23, 24, 25, 26, 27, 28, 29, 30, 31, 32, 33, 34, 35, 36] (v := ?_) hS0 (fun w' hSw => ?_) ?_
  rotate_left
  · have g0 := hSw.1.c 0 _ rfl; have g1 := hSw.1.c 1 _ rfl; have g2 := hSw.1.c 2 _ rfl
    unfold bareOp; go_simp; try with_reducible rfl
  simp only [sY]
  refine tkPG (i := 15) (some 101) (.move (.tmp 1)) 22 (some (13, true)) (fun _ => hS0) ?_
  simp only [sY]
  refine tkPG (i := 16) (some 102) (.move (.tmp 2)) 3 (some (13, true)) (fun _ => hS0) ?_
  simp only [sY]
  refine tkLG (i := 17) (some 103) (.load 33 (.tmp 14)) 33 (some (13, true)) [18, 23, 24, 25, 26, 27, 28, 29, 30, 31, 32, 33, 34, 35, 36] (v := ?_) hS0 (fun w' hSw => ?_) ?_
  rotate_left
  · obtain ⟨⟨q0, q1, q2, q3, q4, q5, q6, q7, q8, q9, q10⟩, -⟩ := hSw.2.1.k11
    unfold bareOp; go_simp; try with_reducible rfl
  simp only [sY]
  refine tkLG (i := 19) (some 105) (.load 24 (.tmp 8)) 24 (some (13, true)) [23, 24, 25, 26, 27, 28, 29, 30, 31, 32, 33, 34, 35, 36] (v := ?_) hS0 (fun w' hSw => ?_) ?_
  rotate_left
  · have g0 := hSw.1.c 0 _ rfl; have g1 := hSw.1.c 1 _ rfl; have g2 := hSw.1.c 2 _ rfl
    unfold bareOp; go_simp; try with_reducible rfl
  simp only [sY]
  refine tkPG (i := 20) (some 106) (.move (.tmp 1)) 22 (some (13, true)) (fun _ => hS0) ?_
  simp only [sY]
  refine tkPG (i := 21) (some 107) (.move (.tmp 2)) 3 (some (13, true)) (fun _ => hS0) ?_
  simp only [sY]
  refine tkLG (i := 22) (some 108) (.load 33 (.tmp 14)) 33 (some (13, true)) [23, 24, 25, 26, 27, 28, 29, 30, 31, 32, 33, 34, 35, 36] (v := ?_) hS0 (fun w' hSw => ?_) ?_
  rotate_left
  · obtain ⟨⟨q0, q1, q2, q3, q4, q5, q6, q7, q8, q9, q10⟩, -⟩ := hSw.2.1.k11
    unfold bareOp; go_simp; try with_reducible rfl
  simp only [sY]
  refine wpAnyB_onlyG (i := 18) (some 104) (.call { callee := .value (.func 12), args := #[.tmp 100, .tmp 101, .tmp 102, .tmp 103], argTypes := #[24, 22, 3, 33] }) 38 (some (13, true)) ⟨_, rfl, rfl, rfl, rfl, rfl⟩ (by kernel_rfl) rfl (fun K hK => ?_)
  unfold bareOp
  refine OpW.out (wp_of_enter (run_call _ _ _ _ 12 Tryz.func12 (vs := #[.agg #[.int .u64 P, .int .u64 Q, .int .u64 G], .int .u64 y, .int .i64 n, .agg V.ca]) (by simp only [List.map_toArray, List.map_cons, List.map_nil]; rfl) rfl (by kernel_rfl) (by kernel_rfl)) (check_any (V := V) _ (HT.o.below HBW.o) hP hQ hG hy (HV.o.keep HBW.o) HEC.o) ?_)
  rintro e w8 ⟨rfl, hb7⟩
  refine ⟨_, rfl, ?_⟩
  replace F_g := Lh (F_g.o.keep hb7)
  replace F_d := Lh (F_d.o.keep hb7)
  replace F_v := Lh (F_v.o.keep hb7)
  replace F_r := Lh (F_r.o.keep hb7)
  replace HV1 := Lh (HV1.o.keep hb7)
  replace HR1 := Lh (HR1.o.keep hb7)
  replace F_a := Lh (F_a.o.keep hb7)
  replace F_b := Lh (F_b.o.keep hb7)
  replace HV2 := Lh (HV2.o.keep hb7)
  replace HR2 := Lh (HR2.o.keep hb7)
  replace F_c := Lh (F_c.o.keep hb7)
  replace F_e := Lh (F_e.o.keep hb7)
  replace HBW := Lh (HBW.o.trans (hb7.mono HBW.o.size))
  clear hb7 hS0
  have hS0 := And.intro F_g.o (And.intro F_v.o (And.intro F_a.o (And.intro F_b.o (And.intro F_c.o F_e.o))))
  refine hK.o _ _ (fun _ => hS0) ?_
  clear hK K
  try simp only [sY]
  refine wpAnyB_onlyG (i := 23) (some 109) (.call { callee := .value (.func 13), args := #[.tmp 105, .tmp 106, .tmp 107, .tmp 108], argTypes := #[24, 22, 3, 33] }) 3 (some (13, true)) ⟨_, rfl, rfl, rfl, rfl, rfl⟩ (by kernel_rfl) rfl (fun K hK => ?_)
  unfold bareOp
  refine OpW.out (wp_of_enter (run_call _ _ _ _ 13 Tryz.func13 (vs := #[.agg #[.int .u64 P, .int .u64 Q, .int .u64 G], .int .u64 y, .int .i64 n, .agg V.ca]) (by simp only [List.map_toArray, List.map_cons, List.map_nil]; rfl) rfl (by kernel_rfl) (by kernel_rfl)) (rCheck36_any (V := V) _ (HT.o.below HBW.o) hP hQ hG hy (HV.o.keep HBW.o) HEC.o) ?_)
  rintro e w8 ⟨rfl, hb7⟩
  refine ⟨_, rfl, ?_⟩
  replace F_g := Lh (F_g.o.keep hb7)
  replace F_d := Lh (F_d.o.keep hb7)
  replace F_v := Lh (F_v.o.keep hb7)
  replace F_r := Lh (F_r.o.keep hb7)
  replace HV1 := Lh (HV1.o.keep hb7)
  replace HR1 := Lh (HR1.o.keep hb7)
  replace F_a := Lh (F_a.o.keep hb7)
  replace F_b := Lh (F_b.o.keep hb7)
  replace HV2 := Lh (HV2.o.keep hb7)
  replace HR2 := Lh (HR2.o.keep hb7)
  replace F_c := Lh (F_c.o.keep hb7)
  replace F_e := Lh (F_e.o.keep hb7)
  replace HBW := Lh (HBW.o.trans (hb7.mono HBW.o.size))
  clear hb7 hS0
  have hS0 := And.intro F_g.o (And.intro F_v.o (And.intro F_a.o (And.intro F_b.o (And.intro F_c.o F_e.o))))
  refine hK.o _ _ (fun _ => hS0) ?_
  clear hK K
  try simp only [sY]
  refine tkPG (i := 24) (some 110) (.binOp .eql 3 (.tmp 104) (.tmp 109) 3) 4 (some (13, true)) (fun _ => hS0) ?_
  simp only [sY]
  refine tkP (i := 25) (some 111) (.pick (.tmp 99) (.tmp 110) (.const (.bool false))) 4 (fun _ => hS0) ?_
  simp only [sY]
  refine tkP (i := 26) (some 112) (.move (.tmp 111)) 4 (fun _ => hS0) ?_
  simp only [sY]
  refine tkPG (i := 27) (some 113) (.move (.tmp 23)) 4 (some (26, true)) (fun _ => hS0) ?_
  simp only [sY]
  refine tkPG (i := 28) (some 114) (.move (.tmp 25)) 4 (some (26, true)) (fun _ => hS0) ?_
  simp only [sY]
  refine tkPG (i := 29) (some 115) (.binOp .eql 4 (.tmp 113) (.tmp 114) 4) 4 (some (26, true)) (fun _ => hS0) ?_
  simp only [sY]
  refine tkP (i := 30) (some 116) (.pick (.tmp 112) (.tmp 115) (.const (.bool false))) 4 (fun _ => hS0) ?_
  simp only [sY]
  refine tkP (i := 31) (some 117) (.move (.tmp 116)) 4 (fun _ => hS0) ?_
  simp only [sY]
  refine tkPG (i := 32) (some 118) (.move (.tmp 24)) 38 (some (31, true)) (fun _ => hS0) ?_
  simp only [sY]
  refine tkPG (i := 33) (some 119) (.move (.tmp 26)) 3 (some (31, true)) (fun _ => hS0) ?_
  simp only [sY]
  refine tkPG (i := 34) (some 120) (.binOp .eql 3 (.tmp 118) (.tmp 119) 3) 4 (some (31, true)) (fun _ => hS0) ?_
  simp only [sY]
  refine tkP (i := 35) (some 121) (.pick (.tmp 117) (.tmp 120) (.const (.bool false))) 4 (fun _ => hS0) ?_
  simp only [sY]
  refine onl (i := 36) (some 16) (.assign (.tmp 121)) 4 (fun K hK => ?_)
  unfold bareOp
  go_wp2_with fail
  refine hK.o _ _ lt8 ?_
  clear hK K
  try simp only [sY]
  refine wpAnyB_done (by kernel_rfl) ?_ _
  go_wp2_with fail
  go_ret
  exact ⟨rfl, HBW.o⟩
theorem lifted (os : Os) (started : os.Started) (H : Type) (enc : TypeId × Value → H) :
    ReturnsInHanded {} Tryz.checked os 3 .any (fun w args => (Rows.boothSealingSpec.pre enc Tryz.prog Tryz.f3 [] false w args ∧ laidMetH Tryz.prog laidL w) ∧ sizedMet enc Tryz.prog Tryz.f3 (OpenSpec.ofChange Rows.boothSealingSpec) false w args) (Rows.boothSealingSpec.post enc Tryz.prog Tryz.f3 false true false false) := by
  refine returnsInHanded_of_change_and (C := Tryz.checked) (X := fun w _ => laidMetH Tryz.prog laidL w) (fun _ _ _ hh h => h.of_heap hh) own started (by kernel_rfl) Tryz.func3
    (ChangeSpec.witness_shaped (enc := enc) (C := Tryz.checked) (os := os) (X := fun w _ => laidMetH Tryz.prog laidL w) false (World.doorLaid Tryz.prog 19 os) #[.agg #[.int .u64 0, .int .u64 0, .int .u64 0], .int .u64 0, .int .i64 0, .slice none 0 0, .bool false, .agg (Array.replicate 32 (.int .u8 0)), .agg #[.slice none 0 0, .slice none 0 0, .bool false, .int .u64 0, .int .u64 0, .int .u64 0, .int .u64 0, .int .u64 0, .int .u64 0, .int .u64 0, .int .u64 0], .agg #[.slice none 0 0, .slice none 0 0]] 8 rfl (World.shaped_of_RefB (by kernel_rfl) (by kernel_rfl)) (by kernel_rfl) (by kernel_rfl) (by kernel_rfl) (door_met os _)) ?_
  intro W base args ds gs before hval0 hW _ _ hL _
  have hT := tabs_of_laid hL
  clear hL
  have hval : ∀ (j : Nat) t v, Tryz.f3.params[j]? = some t → args[j]? = some v → Value.okWide Tryz.prog W .any base t v := hval0
  have hW' := hW
  obtain ⟨p, q, hA0, hV, rfl, hfz, hnd⟩ := hW
  have hA : DataW.TrodAll enc Tryz.prog W 0 (fun _ => true) true Tryz.f3.params.toList args.toList ds p := hA0
  rw [Tryz.params3] at hA hval
  have hK := hA
  obtain ⟨v0, vs0, d0, ds0, p0, q0, hargs, rfl, rfl, h0, r0⟩ := trodAll_cons hA
  obtain ⟨v1, vs1, d1, ds1, p1, q1, rfl, rfl, rfl, h1, r1⟩ := trodAll_cons r0
  obtain ⟨v2, vs2, d2, ds2, p2, q2, rfl, rfl, rfl, h2, r2⟩ := trodAll_cons r1
  obtain ⟨v3, vs3, d3, ds3, p3, q3, rfl, rfl, rfl, h3, r3⟩ := trodAll_cons r2
  obtain ⟨v4, vs4, d4, ds4, p4, q4, rfl, rfl, rfl, h4, r4⟩ := trodAll_cons r3
  obtain ⟨v5, vs5, d5, ds5, p5, q5, rfl, rfl, rfl, h5, r5⟩ := trodAll_cons r4
  obtain ⟨v6, vs6, d6, ds6, p6, q6, rfl, rfl, rfl, h6, r6⟩ := trodAll_cons r5
  obtain ⟨v7, vs7, d7, ds7, p7, q7, rfl, rfl, rfl, h7, r7⟩ := trodAll_cons r6
  obtain ⟨rfl, rfl, rfl⟩ := trodAll_nil r7
  obtain rfl : args = #[v0, v1, v2, v3, v4, v5, v6, v7] := by cases args; simp_all
  obtain ⟨rfl, rfl⟩ := trodVars_none hV
  obtain ⟨P, Q, G, rfl, uP, uQ, uG⟩ := open_group (hval 0 24 v0 rfl rfl) h0
  obtain ⟨y, rfl, uy⟩ := open_u64 (hval 1 22 v1 rfl rfl) h1
  obtain ⟨n, rfl, hn⟩ := open_i64 (hval 2 3 v2 rfl rfl) h2
  obtain ⟨a, m, c, ms, rfl, hS, hu, hk, hm⟩ := open_marks (hval 3 25 v3 rfl rfl) h3
  obtain ⟨one, rfl, u1⟩ := open_boolT (hval 4 4 v4 rfl rfl) h4
  obtain ⟨seed, rfl, hd1, hd2⟩ := open_d32 (hval 5 26 v5 rfl rfl) h5
  obtain ⟨V, rfl, hV⟩ := open_vote (hval 6 33 v6 rfl rfl) h6
  obtain ⟨R, rfl, hR⟩ := open_reveal (hval 7 36 v7 rfl rfl) h7
  clear hA0 hval0
  refine (walk P Q G y n a m c ms one seed V R W uP uQ uG uy hn hS hu hk hm u1 hd1 hd2 hV hR hT).mono fun e W' ⟨he, bel⟩ => ?_
  subst he
  exact ⟨_, rfl, _, _, _, [], _, [], hW', trodAll_mk1 (shut_bool Tryz.underlying4 _), trodAll_stays laidOut (by kernel_rfl) hK bel, rfl, bel.frame _, fun h => by cases h⟩
theorem over : Rows.boothSealingRow.holds Tryz.pinned (OpenSpec.ofChange Rows.boothSealingSpec) :=
  OpenClaim.holds_of_wide 3 Tryz.f3 rfl rfl rfl rfl rfl rfl rfl ⟨rfl, rfl, rfl, rfl, rfl⟩ rfl rfl rfl rfl rfl (by kernel_rfl) Tryz.func3 (by kernel_rfl)
    (of_decide_eq_true (by kernel_rfl)) (by unfold Func.isWrapper; first | (rw [if_pos (by decide +kernel)]; kernel_rfl) | (rw [if_neg (by decide +kernel)]; exact ⟨rfl, rfl⟩))
    (fun os started H enc _ => lifted os started H enc)
theorem proved : Rows.BoothSealingCardSaid :=
  Claim7.holds_tied_plain_at .later [] [.data, .data] true (true, "422daa78fd2ed28af7e45e26535f094626970749b261e064aa34726bf48c7f6f") false
    over (fun _ h => by cases h) (by kernel_rfl) (fun _ h => by cases h) boothSealing_row_tie rfl ⟨rfl, rfl⟩ (by kernel_rfl) rfl
    (fun f fn hf hfn => by
      obtain rfl : f = 3 := Option.some.inj ((show Tryz.prog.funcNamed "suffrage/suffragelaw36.BoothSealing" = some 3 by kernel_rfl).symm.trans hf) |>.symm
      obtain rfl : fn = Tryz.f3 := (Option.some.inj (Tryz.func3.symm.trans hfn)).symm
      exact ⟨by kernel_rfl, fun j t ht => by
       rw [Tryz.params3] at ht
       have hm : t ∈ ([24, 22, 3, 25, 4, 26, 33, 36] : List TypeId) := by simpa using Array.mem_of_getElem? ht
       have hall : (([24, 22, 3, 25, 4, 26, 33, 36] : List TypeId).all fun u => !Tryz.prog.wantsStandIn u) = true := by kernel_rfl
       exact (show Tryz.prog.wantsStandIn t = false by simpa using List.all_eq_true.1 hall t hm)⟩)
    (by kernel_rfl)
#print axioms proved
end Go.Proofs.YtlbldpkgnonbpaaGreatDoor.lawSealing
