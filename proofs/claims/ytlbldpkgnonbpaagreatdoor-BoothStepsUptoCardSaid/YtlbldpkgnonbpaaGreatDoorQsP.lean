/- The reference's SameVote (of equal votes) and GreatVote. -/
import Derived.Test.YtlbldpkgnonbpaaGreatDoorQsO
import Derived.Laws.StructEq
import Derived.Test.YtlbldpkgnonbpaaGreatDoorQsM
import Derived.Test.YtlbldpkgnonbpaaGreatDoorQsN
set_option linter.unusedSimpArgs false
set_option linter.unusedVariables false
set_option maxRecDepth 100000
namespace Go.Proofs.YtlbldpkgnonbpaaGreatDoor
open Go Go.RowKit Num Sha
theorem eq_p64d (n : Nat) (a b c d : Int) (w : World) : (Op.equalIn (n + 2) 29 (.agg #[υ a, υ b]) (.agg #[υ c, υ d])).run Tryz.prog w = .ok (a == c && b == d) w := by
 have u3 := Tryz.underlying22
 have a3 := Tryz.isAgg22
 have z3 := Tryz.sizeOf22
 rw [Op.equalIn]
 simp only [Sem.run_bind, run_underlying Tryz.underlying29, Result.andThen_ok]
 simp only [Std.Legacy.Range.forIn_eq_forIn_range', Std.Legacy.Range.size, Nat.sub_zero, Nat.add_sub_cancel, Nat.div_one, List.range'_succ, List.range'_zero, List.forIn_cons, List.forIn_nil]
 go_simp
 by_cases h1 : a = c <;> by_cases h2 : b = d <;> simp [h1, h2]
@[go_sem] theorem eq_p64l (a b : Int) (w : World) : (Op.equalIn 9999 29 (.agg #[υ a, υ b]) (.agg #[υ a, υ b])).run Tryz.prog w = .ok true w := by
 rw [eq_p64d 9997 a b a b w]; simp
set_option maxHeartbeats 8000000 in
theorem rSame_aux {a1 a2 b1 b2 : Option Addr} {n m c1 c2 d1 d2 : Nat} {bs : List (Int × Int)} {ps : List Bt} {one : Bool} {z : Bt} (w : World) (hn : n ≤ 1000) (hm : m ≤ 1000) (h1 : ShS w a1 n bs) (h2 : ShS w a2 n bs) (h3 : ShB w b1 m ps) (h4 : ShB w b2 m ps) :
 Calls Tryz.prog 10 #[.agg #[.slice a1 n c1, .slice b1 m d1, .bool one, υ z.r0, υ z.r1, υ z.s0, υ z.s1, υ z.c0, υ z.c1, υ z.z0, υ z.z1], .agg #[.slice a2 n c2, .slice b2 m d2, .bool one, υ z.r0, υ z.r1, υ z.s0, υ z.s1, υ z.c0, υ z.c1, υ z.z0, υ z.z1]] w fun e w' => e = .returned (.bool true) ∧ Below w.heap.size w w' := by
 have H1 := Lh h1
 have H2 := Lh h2
 have H3 := Lh h3
 have H4 := Lh h4
 obtain ⟨F_v, F_u, HBW⟩ := bx2 w [.slice a1 n c1, .slice b1 m d1, .bool one, υ z.r0, υ z.r1, υ z.s0, υ z.s1, υ z.c0, υ z.c1, υ z.z0, υ z.z1] 33 [.slice a2 n c2, .slice b2 m d2, .bool one, υ z.r0, υ z.r1, υ z.s0, υ z.s1, υ z.c0, υ z.c1, υ z.z0, υ z.z1] 33
 clear h1 h2 h3 h4
 go_enter Tryz.func10, Tryz.ntmps10
 obtain ⟨⟨q0, q1, q2, q3, q4, q5, q6, q7, q8, q9, q10⟩, -⟩ := F_v.o.k11
 obtain ⟨⟨y0, y1, y2, y3, y4, y5, y6, y7, y8, y9, y10⟩, -⟩ := F_u.o.k11
 go_wp2_with fail
 clear q0 q1 q2 q3 q4 q5 q6 q7 q8 q9 q10 y0 y1 y2 y3 y4 y5 y6 y7 y8 y9 y10
 go_loopw [5] (fun c5 wr => ∃ (i : Nat), i ≤ n ∧ c5 = .int .i64 i ∧ Hid (Cl wr w.heap.size [.slice a1 n c1, .slice b1 m d1, .bool one, υ z.r0, υ z.r1, υ z.s0, υ z.s1, υ z.c0, υ z.c1, υ z.z0, υ z.z1]) ∧ Hid (Cl wr (w.heap.size + 1) [.slice a2 n c2, .slice b2 m d2, .bool one, υ z.r0, υ z.r1, υ z.s0, υ z.s1, υ z.c0, υ z.c1, υ z.z0, υ z.z1]) ∧ Hid (Below w.heap.size w wr)) (fun c5 _ => n - (intOf c5).toNat)
 case atStart => exact ⟨0, by omega, rfl, F_v.o, F_u.o, HBW.o⟩
 case round =>
  clear F_v F_u HBW
  obtain ⟨i, hi, rfl, F_v, F_u, HBW⟩ := hrel
  have hwi : IntKind.i64.wrap ((i : Int) + 1) = (i : Int) + 1 := IntWalk.i64_in _ (by omega)
  have hi0 : (0 : Int) ≤ (i : Int) := by omega
  obtain ⟨⟨q0, q1, q2, q3, q4, q5, q6, q7, q8, q9, q10⟩, -⟩ := F_v.o.k11
  obtain ⟨⟨y0, y1, y2, y3, y4, y5, y6, y7, y8, y9, y10⟩, -⟩ := F_u.o.k11
  by_cases hlt : i < n
  case pos =>
   have hi2 : (i : Int) < (n : Int) := by omega
   have cS : Tryz.prog.cellsOf 75 = 2 := by kernel_rfl
   obtain ⟨s, o, hsa, hsl, e0, e1⟩ := (H1.o.keep HBW.o).at i hlt
   obtain ⟨s', o', hsa', hsl', e0', e1'⟩ := (H2.o.keep HBW.o).at i hlt
   obtain ⟨x, y, hxy⟩ : ∃ x y, bs.getD i (0, 0) = (x, y) := ⟨_, _, rfl⟩
   rw [hxy] at e0 e1 e0' e1'
   simp only at e0 e1 e0' e1'
   clear hxy hsl hsl'
   rw [hsa] at q0
   rw [hsa'] at y0
   clear hsa hsa'
   go_wp2_with fail
   go_region
   go_wp2_with fail
   go_roundw
   case rel => exact ⟨i + 1, by omega, by go_num, F_v.o.drew, F_u.o.drew, HBW.o.drew⟩
   case measure => simp [intOf] <;> omega
  case neg =>
   have hi2 : ¬ ((i : Int) < (n : Int)) := by omega
   go_wp2_with fail
   clear q0 q1 q2 q3 q4 q5 q6 q7 q8 q9 q10 y0 y1 y2 y3 y4 y5 y6 y7 y8 y9 y10 hwi hi0 hi2
   obtain ⟨wb, rfl⟩ : ∃ wb, wb = wr := ⟨_, rfl⟩
   go_loopw [6] (fun c6 wr => ∃ (j : Nat), j ≤ m ∧ c6 = .int .i64 j ∧ Hid (Cl wr w.heap.size [.slice a1 n c1, .slice b1 m d1, .bool one, υ z.r0, υ z.r1, υ z.s0, υ z.s1, υ z.c0, υ z.c1, υ z.z0, υ z.z1]) ∧ Hid (Cl wr (w.heap.size + 1) [.slice a2 n c2, .slice b2 m d2, .bool one, υ z.r0, υ z.r1, υ z.s0, υ z.s1, υ z.c0, υ z.c1, υ z.z0, υ z.z1]) ∧ Hid (Below w.heap.size w wr)) (fun c6 _ => m - (intOf c6).toNat)
   case atStart => exact ⟨0, by omega, rfl, F_v.o, F_u.o, HBW.o⟩
   case round =>
    clear F_v F_u HBW
    obtain ⟨j, hj, rfl, F_v, F_u, HBW⟩ := hrel
    have hwi : IntKind.i64.wrap ((j : Int) + 1) = (j : Int) + 1 := IntWalk.i64_in _ (by omega)
    have hi0 : (0 : Int) ≤ (j : Int) := by omega
    obtain ⟨⟨q0, q1, q2, q3, q4, q5, q6, q7, q8, q9, q10⟩, -⟩ := F_v.o.k11
    obtain ⟨⟨y0, y1, y2, y3, y4, y5, y6, y7, y8, y9, y10⟩, -⟩ := F_u.o.k11
    by_cases hlt : j < m
    case pos =>
     have hi2 : (j : Int) < (m : Int) := by omega
     have cB : Tryz.prog.cellsOf 31 = 8 := by kernel_rfl
     obtain ⟨s, o, x, hsa, hz, hbc⟩ := (H3.o.keep HBW.o).at j hlt
     obtain ⟨s', o', x', hsa', hz', hbc'⟩ := (H4.o.keep HBW.o).at j hlt
     obtain rfl : x = x' := Option.some.inj (hz.symm.trans hz')
     obtain ⟨-, t0, t1, t2, t3, t4, t5, t6, t7⟩ := hbc
     obtain ⟨-, r0, r1, r2, r3, r4, r5, r6, r7⟩ := hbc'
     rw [hsa] at q1
     rw [hsa'] at y1
     clear hsa hsa' hz hz'
     go_wp2_with fail
     go_region
     go_wp2_with fail
     go_roundw
     case rel => exact ⟨j + 1, by omega, by go_num, F_v.o.drew, F_u.o.drew, HBW.o.drew⟩
     case measure => simp [intOf] <;> omega
    case neg =>
     have hi2 : ¬ ((j : Int) < (m : Int)) := by omega
     go_wp2_with fail
     go_ret
     exact ⟨rfl, HBW.o⟩
theorem rSame_any {V U : Vt} (w : World) (hV : VtIn w V) (hU : VtIn w U) (hb : V.bs = U.bs) (hp : V.ps = U.ps) (ho : V.one = U.one) (hz : V.z = U.z) (hn : V.n ≤ 1000) (hm : V.m ≤ 1000) :
 Calls Tryz.prog 10 #[V.v, U.v] w fun e w' => e = .returned (.bool true) ∧ Below w.heap.size w w' := by
 have e1 := hV.h1.len
 have e2 := hU.h1.len
 have e3 := hV.h2.len
 have e4 := hU.h2.len
 obtain ⟨a1, n, c1, bs, b1, m, d1, ps, one, z⟩ := V
 obtain ⟨a2, n', c2, bs', b2, m', d2, ps', one', z'⟩ := U
 simp only at *
 subst hb hp ho hz
 obtain rfl : n' = n := by omega
 obtain rfl : m' = m := by omega
 exact rSame_aux w hn hm hV.h1 hU.h1 hV.h2 hU.h2
def greatV (V : Vt) : Bool := decide (20 < V.n) || decide (20 < V.m)
set_option maxHeartbeats 8000000 in
theorem greatV_any {V : Vt} (w : World) :
 Calls Tryz.prog 5 #[V.v] w fun e w' => e = .returned (.bool (greatV V)) ∧ Below w.heap.size w w' := by
 have F_v := Lh (VBox.at w V 33 w.heap.size rfl)
 have HBW := Lh (show Below w.heap.size w (w.alloc (.cells V.ca 33)) from (Below.refl _ _).alloc (Nat.le_refl _) _)
 obtain ⟨-, v0, v1, -⟩ := id F_v.o
 unfold Vt.v
 by_cases h : 20 < V.n
 case pos =>
  have d1 : decide ((20 : Int) < (V.n : Int)) = true := by simp; omega
  go_enter Tryz.func5, Tryz.ntmps5
  go_wp2_with fail
  go_ret
  exact ⟨by simp [greatV, h], HBW.o⟩
 case neg =>
  have d1 : decide ((20 : Int) < (V.n : Int)) = false := by simp; omega
  go_enter Tryz.func5, Tryz.ntmps5
  go_wp2_with fail
  go_ret
  exact ⟨by simp [greatV, h, show ((20 : Int) < (V.m : Int)) ↔ 20 < V.m by omega], HBW.o⟩
open Go Go.RowKit Num Sha
theorem Bt.u.nn {z : Bt} (h : z.u) : 0 ≤ z.r0 ∧ 0 ≤ z.r1 ∧ 0 ≤ z.s0 ∧ 0 ≤ z.s1 ∧ 0 ≤ z.c0 ∧ 0 ≤ z.c1 ∧ 0 ≤ z.z0 ∧ 0 ≤ z.z1 := by
 obtain ⟨h0, h1, h2, h3, h4, h5, h6, h7⟩ := h
 exact ⟨h0.1, h1.1, h2.1, h3.1, h4.1, h5.1, h6.1, h7.1⟩
theorem ShI.lit1 (q : IntKind) (w : World) (x : Int) (T : TypeId) (s : Nat) (hs : s = w.heap.size) : ShI q (w.alloc (.cells #[.int q x] T)) (some ⟨s, 0, none⟩) 1 [x] :=
 .inr ⟨s, 0, rfl, rfl, by subst hs; simp, fun i hi => by rw [Nat.zero_add]; exact (Arr.new q w [x] T s hs).c i hi⟩
def provB (P Q G y a b : Int) (z : Bt) (x : Int) : Prop :=
 askS P Q G [z.c0, z.c1, z.z0, z.z1] [y, a, b, z.r0, z.r1, z.s0, z.s1] = 0 ∧ bvP P Q G y a b z.r0 z.r1 z.s0 z.s1 z.c0 z.c1 z.z0 z.z1 [x]
set_option maxHeartbeats 8000000 in
theorem proved_any {P Q G y a b x : Int} {z : Bt} {v : Bool} (w : World) (hT : Tabs w) (hP : 0 ≤ P) (hQ : 0 ≤ Q) (hG : 0 ≤ G) (hy : 0 ≤ y) (ha : 0 ≤ a) (hb : 0 ≤ b) (hz : z.u) (hx0 : 0 ≤ x) (hx1 : x < 256) (hv : v = true ↔ provB P Q G y a b z x) :
 Calls Tryz.prog 82 #[.agg #[υ P, υ Q, υ G], υ y, .agg #[υ a, υ b], .agg #[υ z.r0, υ z.r1, υ z.s0, υ z.s1, υ z.c0, υ z.c1, υ z.z0, υ z.z1], .int .u8 x] w fun e w' => e = .returned (.bool v) ∧ Below w.heap.size w w' := by
 have HT := Lh hT
 obtain ⟨n0, n1, n2, n3, n4, n5, n6, n7⟩ := hz.nn
 have HV := Lh hv
 obtain ⟨F_g, F_s, F_z, HBW⟩ := bx3 w [υ P, υ Q, υ G] 24 [υ a, υ b] 75 [υ z.r0, υ z.r1, υ z.s0, υ z.s1, υ z.c0, υ z.c1, υ z.z0, υ z.z1] 31
 have HX := Lh (show Txt ((((w.alloc (.cells #[υ P, υ Q, υ G] 24)).alloc (.cells #[υ a, υ b] 75)).alloc (.cells #[υ z.r0, υ z.r1, υ z.s0, υ z.s1, υ z.c0, υ z.c1, υ z.z0, υ z.z1] 31)).alloc (.cells #[.int .u8 x] 5)) (some ⟨w.heap.size + 1 + 1 + 1, 0, none⟩) 1 [x] from
  ⟨(HT.o.below HBW.o).below ((Below.refl _ _).alloc (Nat.le_refl _) _), ShI.lit1 .u8 _ x _ _ (by simp), fun u hu => by simp at hu; subst hu; exact ⟨hx0, hx1⟩⟩)
 obtain ⟨v', e', hR⟩ := RetB.exists (lgS (askS P Q G [z.c0, z.c1, z.z0, z.z1] [y, a, b, z.r0, z.r1, z.s0, z.s1]) 1) (bvP P Q G y a b z.r0 z.r1 z.s0 z.s1 z.c0 z.c1 z.z0 z.z1 [x])
 have HR := Lh hR
 clear hT hz hv hR
 have g0 := F_g.o.c 0 _ rfl
 have g1 := F_g.o.c 1 _ rfl
 have g2 := F_g.o.c 2 _ rfl
 have s0 := F_s.o.c 0 _ rfl
 have s1 := F_s.o.c 1 _ rfl
 have z0 := F_z.o.c 0 _ rfl
 have z1 := F_z.o.c 1 _ rfl
 have z2 := F_z.o.c 2 _ rfl
 have z3 := F_z.o.c 3 _ rfl
 have z4 := F_z.o.c 4 _ rfl
 have z5 := F_z.o.c 5 _ rfl
 have z6 := F_z.o.c 6 _ rfl
 have z7 := F_z.o.c 7 _ rfl
 go_enter Tryz.func82, Tryz.ntmps82
 go_wp2_with fail
 clear g0 g1 g2 s0 s1 z0 z1 z2 z3 z4 z5 z6 z7
 refine (pbitVerify_any _ HX.o hP hQ hG hy ha hb n0 n1 n2 n3 n4 n5 n6 n7 (by decide) HR.o).mono ?_
 rintro e w5 ⟨rfl, hb5⟩
 have HB5 := Lh ((HBW.o.alloc HBW.o.size (.cells #[.int .u8 x] 5)).trans (hb5.mono (by simp; omega)))
 clear hb5
 rcases HR.o with ⟨h1, h2, rfl⟩ | ⟨h1, rfl, rfl⟩
 · have HE := Lh (show v' = v by
    have h3 : provB P Q G y a b z x ↔ v' = true := ⟨fun h => h2.2 h.2, fun h => ⟨(lgS_zero h1).1, h2.1 h⟩⟩
    have h4 := HV.o.trans h3
    cases v <;> cases v' <;> simp_all)
   clear h1 h2
   go_wp2_with fail
   go_ret
   exact ⟨by rw [HE.o]; rfl, HB5.o⟩
 · have HE := Lh (show v = false by
    cases v with
    | false => rfl
    | true => exact absurd (show lgS (askS P Q G [z.c0, z.c1, z.z0, z.z1] [y, a, b, z.r0, z.r1, z.s0, z.s1]) 1 = 0 by unfold lgS; rw [if_pos (HV.o.1 rfl).1]; rfl) h1)
   go_wp2_with fail
   go_ret
   exact ⟨by rw [HE.o]; rfl, HB5.o⟩
open Go Go.RowKit Num Sha
set_option maxHeartbeats 4000000 in
theorem rMake_any {P Q G y m x a b : Int} (w : World) (hH : Has P Q G) (y0 : 0 ≤ y) (yP : y < P) (m0 : 0 ≤ m) (mQ : m < Q) (x0 : 0 ≤ x) (xQ : x < Q) (ha : powm G x P = a) (hb : powm G m P * powm y x P % P = b) :
 Calls Tryz.prog 78 #[.agg #[υ P, υ Q, υ G], υ y, υ m, υ x] w fun e w' => e = .returned (.agg #[υ a, υ b]) ∧ Below w.heap.size w w' := by
 have PM : P < 2147483648 := hH.2.1
 have hP : 0 ≤ P := by have := hH.1; omega
 have hP1 : 1 < P := by have := hH.1; omega
 have hQ : 0 ≤ Q := hH.2.2.1
 have hG : 0 ≤ G := by have := hH.2.2.2.2.1; omega
 have hGP : G < P := hH.2.2.2.2.2
 have hQm : Q < 2147483648 := by have h1 := hH.2.2.2.1; have h2 := hH.2.1; omega
 have HH := Lh hH
 clear hH
 have GM : G < 2147483648 := by omega
 have YM : y < 2147483648 := by omega
 have HA := Lh ha
 have UX := Lh (U64.of_lt x0 (by omega))
 have UM := Lh (U64.of_lt m0 (by omega))
 generalize hgm : powm G m P = gm at hb
 generalize hyr : powm y x P = yr at hb
 have gm0 : 0 ≤ gm := hgm ▸ Int.emod_nonneg _ (by omega)
 have gmP : gm < P := hgm ▸ Int.emod_lt_of_pos _ (by omega)
 have yr0 : 0 ≤ yr := hyr ▸ Int.emod_nonneg _ (by omega)
 have yrP : yr < P := hyr ▸ Int.emod_lt_of_pos _ (by omega)
 have HM := Lh hgm
 have HY := Lh hyr
 obtain ⟨k1, k2⟩ := mul_bound gm0 (by omega) yr0 (by omega)
 have k3 := wrap_u k1 (by omega)
 have k4 : (gm * yr).tmod P = b := (tmod_u k1).trans hb
 have k5 : 0 ≤ b := hb ▸ Int.emod_nonneg _ (by omega)
 have k6 : b < P := hb ▸ Int.emod_lt_of_pos _ (by omega)
 have k7 := wrap_u k5 (by omega)
 have k8 : ¬ P = 0 := by omega
 clear ha hb hgm hyr
 have F_g := Lh (show Boxed ((w.alloc (.cells #[υ P, υ Q, υ G] 24)).alloc (.cells #[υ 0, υ 0] 75)) (w.heap.size) P Q G from (Boxed.at _ P Q G _ (w.heap.size) (by simp)).alloc _)
 have F_r := Lh (show Pair ((w.alloc (.cells #[υ P, υ Q, υ G] 24)).alloc (.cells #[υ 0, υ 0] 75)) (w.heap.size + 1) 0 0 from Pair.at _ 0 0 _ (w.heap.size + 1) (by simp))
 have HBW := Lh (show Below w.heap.size w ((w.alloc (.cells #[υ P, υ Q, υ G] 24)).alloc (.cells #[υ 0, υ 0] 75)) from ((Below.refl _ _).alloc (by simp <;> omega) _).alloc (by simp <;> omega) _)
 go_enter Tryz.func78, Tryz.ntmps78
 go_wp2_with fail
 replace F_g := Lh F_g.o.drew
 replace F_r := Lh F_r.o.drew
 replace HBW := Lh HBW.o.drew
 have hS := F_g.o.s
 refine wp_region_stage 19 (fun w' => SBox w' w.heap.size P Q G) (by kernel_rfl) ?_
 refine tkL (i := 0) (some 9) (.load 24 (.tmp 4)) 24 [4, 9, 13, 14, 17, 18, 19] (v := ?_) hS (fun w' hSw => ?_) ?_
 rotate_left
 · obtain ⟨s0, s1, s2⟩ := hSw
   unfold bareOp; go_simp; try with_reducible rfl
 simp only [sY]
 refine tkQ 1 (some 10) (.fieldAddr 24 (.tmp 4) 2) 0 ?_
 simp only [sY]
 refine tkL (i := 2) (some 11) (.load 22 (.tmp 10)) 22 [4, 9, 13, 14, 17, 18, 19] (v := ?_) hS (fun w' hSw => ?_) ?_
 rotate_left
 · obtain ⟨s0, s1, s2⟩ := hSw
   unfold bareOp; go_simp; try with_reducible rfl
 simp only [sY]
 refine tkQ 3 (some 12) (.move (.tmp 3)) 22 ?_
 simp only [sY]
 refine tkL (i := 5) (some 14) (.load 24 (.tmp 4)) 24 [9, 13, 14, 17, 18, 19] (v := ?_) hS (fun w' hSw => ?_) ?_
 rotate_left
 · obtain ⟨s0, s1, s2⟩ := hSw
   unfold bareOp; go_simp; try with_reducible rfl
 simp only [sY]
 refine tkQ 6 (some 15) (.fieldAddr 24 (.tmp 4) 2) 0 ?_
 simp only [sY]
 refine tkL (i := 7) (some 16) (.load 22 (.tmp 15)) 22 [9, 13, 14, 17, 18, 19] (v := ?_) hS (fun w' hSw => ?_) ?_
 rotate_left
 · obtain ⟨s0, s1, s2⟩ := hSw
   unfold bareOp; go_simp; try with_reducible rfl
 simp only [sY]
 refine tkQ 8 (some 17) (.move (.tmp 2)) 22 ?_
 simp only [sY]
 refine tkL (i := 10) (some 19) (.load 24 (.tmp 4)) 24 [13, 14, 17, 18, 19] (v := ?_) hS (fun w' hSw => ?_) ?_
 rotate_left
 · obtain ⟨s0, s1, s2⟩ := hSw
   unfold bareOp; go_simp; try with_reducible rfl
 simp only [sY]
 refine tkQ 11 (some 20) (.move (.tmp 1)) 22 ?_
 simp only [sY]
 refine tkQ 12 (some 21) (.move (.tmp 3)) 22 ?_
 simp only [sY]
 refine tkQ 15 (some 24) (.fieldAddr 24 (.tmp 4) 0) 0 ?_
 simp only [sY]
 refine tkL (i := 16) (some 25) (.load 22 (.tmp 24)) 22 [17, 18, 19] (v := ?_) hS (fun w' hSw => ?_) ?_
 rotate_left
 · obtain ⟨s0, s1, s2⟩ := hSw
   unfold bareOp; go_simp; try with_reducible rfl
 simp only [sY]
 refine onl (i := 4) (some 13) (.call { callee := .value (.func 106), args := #[.tmp 9, .tmp 11, .tmp 12], argTypes := #[24, 22, 22] }) 22 (fun K hK => ?_)
 unfold bareOp
 go_wp2_with (go_at_call 106; refine (r31Power_any _ (by omega) PM hG GM UX.o HA.o).mono ?_; rintro e w1 ⟨rfl, hb1⟩)
 replace F_g := Lh (F_g.o.keep hb1)
 replace F_r := Lh (F_r.o.keep hb1)
 replace HBW := Kt HBW hb1
 replace hS := F_g.o.s
 clear hb1
 obtain ⟨z1a, z1b, z1c, z1d, -⟩ := id F_r.o
 refine hK.o _ _ (fun _ => hS) ?_
 clear hK K
 try simp only [sY]
 refine onl (i := 9) (some 18) (.call { callee := .value (.func 106), args := #[.tmp 14, .tmp 16, .tmp 17], argTypes := #[24, 22, 22] }) 22 (fun K hK => ?_)
 unfold bareOp
 go_wp2_with (go_at_call 106; refine (r31Power_any _ (by omega) PM hG GM UM.o HM.o).mono ?_; rintro e w2 ⟨rfl, hb2⟩)
 replace F_g := Lh (F_g.o.keep hb2)
 replace F_r := Lh (F_r.o.keep hb2)
 replace HBW := Kt HBW hb2
 replace hS := F_g.o.s
 clear hb2
 obtain ⟨z2a, z2b, z2c, z2d, -⟩ := id F_r.o
 refine hK.o _ _ (fun _ => hS) ?_
 clear hK K
 try simp only [sY]
 refine onl (i := 13) (some 22) (.call { callee := .value (.func 106), args := #[.tmp 19, .tmp 20, .tmp 21], argTypes := #[24, 22, 22] }) 22 (fun K hK => ?_)
 unfold bareOp
 go_wp2_with (go_at_call 106; refine (r31Power_any _ (by omega) PM y0 YM UX.o HY.o).mono ?_; rintro e w3 ⟨rfl, hb3⟩)
 replace F_g := Lh (F_g.o.keep hb3)
 replace F_r := Lh (F_r.o.keep hb3)
 replace HBW := Kt HBW hb3
 replace hS := F_g.o.s
 clear hb3
 obtain ⟨z3a, z3b, z3c, z3d, -⟩ := id F_r.o
 refine hK.o _ _ (fun _ => hS) ?_
 clear hK K
 try simp only [sY]
 refine tkQ 14 (some 23) (.binOp .mul 22 (.tmp 18) (.tmp 22) 22) 22 ?_
 simp only [sY]
 refine tkQ 17 (some 26) (.binOp .rem 22 (.tmp 23) (.tmp 25) 22) 22 ?_
 simp only [sY]
 refine tkQ 18 (some 27) (.build 75 #[(0, .tmp 13), (1, .tmp 26)]) 75 ?_
 simp only [sY]
 refine onl (i := 19) none (.store 75 (.tmp 8) (.tmp 27)) 0 (fun K hK => ?_)
 unfold bareOp
 go_wp2_with fail
 refine hK.o _ _ lt8 ?_
 clear hK K
 try simp only [sY]
 refine wpAnyB_done (by kernel_rfl) ?_ _
 go_wp2_with fail
 exact bodyPost_ret (res_alone rfl (F_r.o.stored a b) _ rfl) rfl ⟨rfl, (HBW.o.setCell (by simp <;> omega) _).setCell (by simp <;> omega) _⟩
set_option maxHeartbeats 1000000 in
theorem rminus_any {P Q G x v : Int} (w : World) (hH : Has P Q G) (x0 : 0 ≤ x) (xQ : x < Q) (hv : (0 - x) % Q = v) :
 Calls Tryz.prog 107 #[.agg #[υ P, υ Q, υ G], υ x] w fun e w' => e = .returned (υ v) ∧ Below w.heap.size w w' := by
 have HV := Lh hv
 clear hv
 obtain ⟨p5, p3, hQ', pq, g2, gP⟩ := id hH
 have hP1 : 1 ≤ P := by omega
 have hGM : G < 2147483648 := by omega
 have q3 : Q < 1073741824 := by omega
 have q2 : 2 ≤ Q := by omega
 have HH := Lh hH
 clear hH pq
 have F_g := Lh (show Boxed (w.alloc (.cells #[υ P, υ Q, υ G] 24)) (w.heap.size) P Q G from Boxed.at _ P Q G _ (w.heap.size) (by simp))
 have HBW := Lh (show Below w.heap.size w (w.alloc (.cells #[υ P, υ Q, υ G] 24)) from (Below.refl _ _).alloc (by simp <;> omega) _)
 go_enter Tryz.func107, Tryz.ntmps107
 obtain ⟨xa, xb, xc, -⟩ := id F_g.o
 go_wp2_with fail
 clear xa xb xc
 refine (rDiff_gen _ HH.o (by omega) (by omega) x0 xQ HV.o).mono ?_
 rintro e w1 ⟨rfl, hb1⟩
 replace F_g := Lh (F_g.o.keep hb1)
 replace HBW := Kt HBW hb1
 clear hb1
 obtain ⟨xa, xb, xc, -⟩ := id F_g.o
 go_wp2_with fail
 go_ret
 exact ⟨rfl, HBW.o⟩
set_option maxHeartbeats 4000000 in
theorem rWithout0_any {P Q G a b nn pw v : Int} (w : World) (hH : Has P Q G) (b0 : 0 ≤ b) (bP : b < P) (hn : (0 - 0) % Q = nn) (hp : powm G nn P = pw) (hv : b * pw % P = v) :
 Calls Tryz.prog 108 #[.agg #[υ P, υ Q, υ G], .agg #[υ a, υ b], .int .i64 0] w fun e w' => e = .returned (υ v) ∧ Below w.heap.size w w' := by
 obtain ⟨p5, p3, hQ', pq, g2, gP⟩ := id hH
 have hP1 : 1 ≤ P := by omega
 have hGM : G < 2147483648 := by omega
 have q3 : Q < 1073741824 := by omega
 have q2 : 2 ≤ Q := by omega
 have HH := Lh hH
 clear hH pq
 have hG : 0 ≤ G := by omega
 have PM : P < 2147483648 := by omega
 have GM : G < 2147483648 := by omega
 have n0 : 0 ≤ nn := by rw [← hn]; exact Int.emod_nonneg _ (by omega)
 have nQ : nn < Q := by rw [← hn]; exact Int.emod_lt_of_pos _ (by omega)
 have pw0 : 0 ≤ pw := by rw [← hp]; exact powm_nonneg (by omega)
 have pwP : pw < P := by rw [← hp]; exact powm_lt (by omega)
 have UN := Lh (U64.of_lt n0 (by omega))
 have HMN := Lh hn
 have HPW := Lh hp
 obtain ⟨k1, k2⟩ := mul_bound b0 (by omega) pw0 (by omega)
 have k3 := wrap_u k1 (by omega)
 have k4 : (b * pw).tmod P = v := (tmod_u k1).trans hv
 have k5 : 0 ≤ v := hv ▸ Int.emod_nonneg _ (by omega)
 have k6 : v < P := hv ▸ Int.emod_lt_of_pos _ (by omega)
 have k7 := wrap_u k5 (by omega)
 have k8 : ¬ P = 0 := by omega
 have k9 : ¬ Q = 0 := by omega
 have ka : (1 : Int).tmod Q = 1 := by rw [tmod_u (by omega)]; exact Int.emod_eq_of_lt (by omega) (by omega)
 have kb : (1 : Int) % Q = 1 := Int.emod_eq_of_lt (by omega) (by omega)
 have HMQ := Lh (show (0 - 1 % Q) % Q = (0 - 1) % Q by rw [kb])
 clear hn hp hv
 have F_g := Lh (show Boxed ((w.alloc (.cells #[υ P, υ Q, υ G] 24)).alloc (.cells #[υ a, υ b] 75)) (w.heap.size) P Q G from (Boxed.at _ P Q G _ (w.heap.size) (by simp)).alloc _)
 have F_s := Lh (show Pair ((w.alloc (.cells #[υ P, υ Q, υ G] 24)).alloc (.cells #[υ a, υ b] 75)) (w.heap.size + 1) a b from Pair.at _ a b _ (w.heap.size + 1) (by simp))
 have HBW := Lh (show Below w.heap.size w ((w.alloc (.cells #[υ P, υ Q, υ G] 24)).alloc (.cells #[υ a, υ b] 75)) from ((Below.refl _ _).alloc (by simp <;> omega) _).alloc (by simp <;> omega) _)
 go_enter Tryz.func108, Tryz.ntmps108
 obtain ⟨xa, xb, xc, -⟩ := id F_g.o
 obtain ⟨ya, yb, yc, yd, -⟩ := id F_s.o
 go_wp2_with fail
 clear xa xb xc ya yb yc yd
 replace F_g := Lh F_g.o.drew
 replace F_s := Lh F_s.o.drew
 replace HBW := Lh HBW.o.drew
 have hS := And.intro F_g.o.s F_s.o.s
 refine wp_region_stage 17 (fun w' => SBox w' w.heap.size P Q G ∧ SPair w' (w.heap.size + 1) a b) (by kernel_rfl) ?_
 refine tkQ 0 (some 7) (.fieldAddr 75 (.tmp 4) 1) 0 ?_
 simp only [sY]
 refine tkL (i := 1) (some 8) (.load 22 (.tmp 7)) 22 [13, 16, 17] (v := ?_) hS (fun w' hSw => ?_) ?_
 rotate_left
 · obtain ⟨⟨s0, s1, s2⟩, ⟨s3, s4⟩⟩ := hSw
   unfold bareOp; go_simp; try with_reducible rfl
 simp only [sY]
 refine tkL (i := 2) (some 9) (.load 24 (.tmp 3)) 24 [12, 13, 16, 17] (v := ?_) hS (fun w' hSw => ?_) ?_
 rotate_left
 · obtain ⟨⟨s0, s1, s2⟩, ⟨s3, s4⟩⟩ := hSw
   unfold bareOp; go_simp; try with_reducible rfl
 simp only [sY]
 refine tkQ 3 (some 10) (.fieldAddr 24 (.tmp 3) 2) 0 ?_
 simp only [sY]
 refine tkL (i := 4) (some 11) (.load 22 (.tmp 10)) 22 [12, 13, 16, 17] (v := ?_) hS (fun w' hSw => ?_) ?_
 rotate_left
 · obtain ⟨⟨s0, s1, s2⟩, ⟨s3, s4⟩⟩ := hSw
   unfold bareOp; go_simp; try with_reducible rfl
 simp only [sY]
 refine tkL (i := 5) (some 12) (.load 24 (.tmp 3)) 24 [11, 12, 13, 16, 17] (v := ?_) hS (fun w' hSw => ?_) ?_
 rotate_left
 · obtain ⟨⟨s0, s1, s2⟩, ⟨s3, s4⟩⟩ := hSw
   unfold bareOp; go_simp; try with_reducible rfl
 simp only [sY]
 refine tkQ 6 (some 13) (.move (.tmp 2)) 3 ?_
 simp only [sY]
 refine tkQ 7 (some 14) (.convert 3 22 (.tmp 13)) 22 ?_
 simp only [sY]
 refine tkQ 8 (some 15) (.fieldAddr 24 (.tmp 3) 1) 0 ?_
 simp only [sY]
 refine tkL (i := 9) (some 16) (.load 22 (.tmp 15)) 22 [10, 11, 12, 13, 16, 17] (v := ?_) hS (fun w' hSw => ?_) ?_
 rotate_left
 · obtain ⟨⟨s0, s1, s2⟩, ⟨s3, s4⟩⟩ := hSw
   unfold bareOp; go_simp; try with_reducible rfl
 simp only [sY]
 refine tkQ 10 (some 17) (.binOp .rem 22 (.tmp 14) (.tmp 16) 22) 22 ?_
 simp only [sY]
 refine tkQ 14 (some 21) (.fieldAddr 24 (.tmp 3) 0) 0 ?_
 simp only [sY]
 refine tkL (i := 15) (some 22) (.load 22 (.tmp 21)) 22 [16, 17] (v := ?_) hS (fun w' hSw => ?_) ?_
 rotate_left
 · obtain ⟨⟨s0, s1, s2⟩, ⟨s3, s4⟩⟩ := hSw
   unfold bareOp; go_simp; try with_reducible rfl
 simp only [sY]
 refine onl (i := 11) (some 18) (.call { callee := .value (.func 107), args := #[.tmp 12, .tmp 17], argTypes := #[24, 22] }) 22 (fun K hK => ?_)
 unfold bareOp
 go_wp2_with (go_at_call 107; refine (rminus_any _ HH.o (by omega) (by omega) HMN.o).mono ?_; rintro e w1 ⟨rfl, hb1⟩)
 replace F_g := Lh (F_g.o.keep hb1)
 replace F_s := Lh (F_s.o.keep hb1)
 replace HBW := Kt HBW hb1
 replace hS := And.intro F_g.o.s F_s.o.s
 clear hb1
 refine hK.o _ _ (fun _ => hS) ?_
 clear hK K
 try simp only [sY]
 refine onl (i := 12) (some 19) (.call { callee := .value (.func 106), args := #[.tmp 9, .tmp 11, .tmp 18], argTypes := #[24, 22, 22] }) 22 (fun K hK => ?_)
 unfold bareOp
 go_wp2_with (go_at_call 106; refine (r31Power_any _ hP1 PM hG GM UN.o HPW.o).mono ?_; rintro e w2 ⟨rfl, hb2⟩)
 replace F_g := Lh (F_g.o.keep hb2)
 replace F_s := Lh (F_s.o.keep hb2)
 replace HBW := Kt HBW hb2
 replace hS := And.intro F_g.o.s F_s.o.s
 clear hb2
 refine hK.o _ _ (fun _ => hS) ?_
 clear hK K
 try simp only [sY]
 refine tkQ 13 (some 20) (.binOp .mul 22 (.tmp 8) (.tmp 19) 22) 22 ?_
 simp only [sY]
 refine tkQ 16 (some 23) (.binOp .rem 22 (.tmp 20) (.tmp 22) 22) 22 ?_
 simp only [sY]
 refine onl (i := 17) (some 6) (.assign (.tmp 23)) 22 (fun K hK => ?_)
 unfold bareOp
 go_wp2_with fail
 refine hK.o _ _ lt8 ?_
 clear hK K
 try simp only [sY]
 refine wpAnyB_done (by kernel_rfl) ?_ _
 clear hS
 go_wp2_with fail
 go_ret
 exact ⟨rfl, HBW.o⟩
set_option maxHeartbeats 4000000 in
theorem rWithout1_any {P Q G a b nn pw v : Int} (w : World) (hH : Has P Q G) (b0 : 0 ≤ b) (bP : b < P) (hn : (0 - 1) % Q = nn) (hp : powm G nn P = pw) (hv : b * pw % P = v) :
 Calls Tryz.prog 108 #[.agg #[υ P, υ Q, υ G], .agg #[υ a, υ b], .int .i64 1] w fun e w' => e = .returned (υ v) ∧ Below w.heap.size w w' := by
 obtain ⟨p5, p3, hQ', pq, g2, gP⟩ := id hH
 have hP1 : 1 ≤ P := by omega
 have hGM : G < 2147483648 := by omega
 have q3 : Q < 1073741824 := by omega
 have q2 : 2 ≤ Q := by omega
 have HH := Lh hH
 clear hH pq
 have hG : 0 ≤ G := by omega
 have PM : P < 2147483648 := by omega
 have GM : G < 2147483648 := by omega
 have n0 : 0 ≤ nn := by rw [← hn]; exact Int.emod_nonneg _ (by omega)
 have nQ : nn < Q := by rw [← hn]; exact Int.emod_lt_of_pos _ (by omega)
 have pw0 : 0 ≤ pw := by rw [← hp]; exact powm_nonneg (by omega)
 have pwP : pw < P := by rw [← hp]; exact powm_lt (by omega)
 have UN := Lh (U64.of_lt n0 (by omega))
 have HMN := Lh hn
 have HPW := Lh hp
 obtain ⟨k1, k2⟩ := mul_bound b0 (by omega) pw0 (by omega)
 have k3 := wrap_u k1 (by omega)
 have k4 : (b * pw).tmod P = v := (tmod_u k1).trans hv
 have k5 : 0 ≤ v := hv ▸ Int.emod_nonneg _ (by omega)
 have k6 : v < P := hv ▸ Int.emod_lt_of_pos _ (by omega)
 have k7 := wrap_u k5 (by omega)
 have k8 : ¬ P = 0 := by omega
 have k9 : ¬ Q = 0 := by omega
 have ka : (1 : Int).tmod Q = 1 := by rw [tmod_u (by omega)]; exact Int.emod_eq_of_lt (by omega) (by omega)
 have kb : (1 : Int) % Q = 1 := Int.emod_eq_of_lt (by omega) (by omega)
 have HMQ := Lh (show (0 - 1 % Q) % Q = (0 - 1) % Q by rw [kb])
 clear hn hp hv
 have F_g := Lh (show Boxed ((w.alloc (.cells #[υ P, υ Q, υ G] 24)).alloc (.cells #[υ a, υ b] 75)) (w.heap.size) P Q G from (Boxed.at _ P Q G _ (w.heap.size) (by simp)).alloc _)
 have F_s := Lh (show Pair ((w.alloc (.cells #[υ P, υ Q, υ G] 24)).alloc (.cells #[υ a, υ b] 75)) (w.heap.size + 1) a b from Pair.at _ a b _ (w.heap.size + 1) (by simp))
 have HBW := Lh (show Below w.heap.size w ((w.alloc (.cells #[υ P, υ Q, υ G] 24)).alloc (.cells #[υ a, υ b] 75)) from ((Below.refl _ _).alloc (by simp <;> omega) _).alloc (by simp <;> omega) _)
 go_enter Tryz.func108, Tryz.ntmps108
 obtain ⟨xa, xb, xc, -⟩ := id F_g.o
 obtain ⟨ya, yb, yc, yd, -⟩ := id F_s.o
 go_wp2_with fail
 clear xa xb xc ya yb yc yd
 replace F_g := Lh F_g.o.drew
 replace F_s := Lh F_s.o.drew
 replace HBW := Lh HBW.o.drew
 have hS := And.intro F_g.o.s F_s.o.s
 refine wp_region_stage 17 (fun w' => SBox w' w.heap.size P Q G ∧ SPair w' (w.heap.size + 1) a b) (by kernel_rfl) ?_
 refine tkQ 0 (some 7) (.fieldAddr 75 (.tmp 4) 1) 0 ?_
 simp only [sY]
 refine tkL (i := 1) (some 8) (.load 22 (.tmp 7)) 22 [13, 16, 17] (v := ?_) hS (fun w' hSw => ?_) ?_
 rotate_left
 · obtain ⟨⟨s0, s1, s2⟩, ⟨s3, s4⟩⟩ := hSw
   unfold bareOp; go_simp; try with_reducible rfl
 simp only [sY]
 refine tkL (i := 2) (some 9) (.load 24 (.tmp 3)) 24 [12, 13, 16, 17] (v := ?_) hS (fun w' hSw => ?_) ?_
 rotate_left
 · obtain ⟨⟨s0, s1, s2⟩, ⟨s3, s4⟩⟩ := hSw
   unfold bareOp; go_simp; try with_reducible rfl
 simp only [sY]
 refine tkQ 3 (some 10) (.fieldAddr 24 (.tmp 3) 2) 0 ?_
 simp only [sY]
 refine tkL (i := 4) (some 11) (.load 22 (.tmp 10)) 22 [12, 13, 16, 17] (v := ?_) hS (fun w' hSw => ?_) ?_
 rotate_left
 · obtain ⟨⟨s0, s1, s2⟩, ⟨s3, s4⟩⟩ := hSw
   unfold bareOp; go_simp; try with_reducible rfl
 simp only [sY]
 refine tkL (i := 5) (some 12) (.load 24 (.tmp 3)) 24 [11, 12, 13, 16, 17] (v := ?_) hS (fun w' hSw => ?_) ?_
 rotate_left
 · obtain ⟨⟨s0, s1, s2⟩, ⟨s3, s4⟩⟩ := hSw
   unfold bareOp; go_simp; try with_reducible rfl
 simp only [sY]
 refine tkQ 6 (some 13) (.move (.tmp 2)) 3 ?_
 simp only [sY]
 refine tkQ 7 (some 14) (.convert 3 22 (.tmp 13)) 22 ?_
 simp only [sY]
 refine tkQ 8 (some 15) (.fieldAddr 24 (.tmp 3) 1) 0 ?_
 simp only [sY]
 refine tkL (i := 9) (some 16) (.load 22 (.tmp 15)) 22 [10, 11, 12, 13, 16, 17] (v := ?_) hS (fun w' hSw => ?_) ?_
 rotate_left
 · obtain ⟨⟨s0, s1, s2⟩, ⟨s3, s4⟩⟩ := hSw
   unfold bareOp; go_simp; try with_reducible rfl
 simp only [sY]
 refine tkQ 10 (some 17) (.binOp .rem 22 (.tmp 14) (.tmp 16) 22) 22 ?_
 simp only [sY]
 refine tkQ 14 (some 21) (.fieldAddr 24 (.tmp 3) 0) 0 ?_
 simp only [sY]
 refine tkL (i := 15) (some 22) (.load 22 (.tmp 21)) 22 [16, 17] (v := ?_) hS (fun w' hSw => ?_) ?_
 rotate_left
 · obtain ⟨⟨s0, s1, s2⟩, ⟨s3, s4⟩⟩ := hSw
   unfold bareOp; go_simp; try with_reducible rfl
 simp only [sY]
 refine onl (i := 11) (some 18) (.call { callee := .value (.func 107), args := #[.tmp 12, .tmp 17], argTypes := #[24, 22] }) 22 (fun K hK => ?_)
 unfold bareOp
 go_wp2_with (go_at_call 107; refine (rminus_any (x := 1 % Q) _ HH.o (Int.emod_nonneg _ (by omega)) (Int.emod_lt_of_pos _ (by omega)) (HMQ.o.trans HMN.o)).mono ?_; rintro e w1 ⟨rfl, hb1⟩)
 replace F_g := Lh (F_g.o.keep hb1)
 replace F_s := Lh (F_s.o.keep hb1)
 replace HBW := Kt HBW hb1
 replace hS := And.intro F_g.o.s F_s.o.s
 clear hb1
 refine hK.o _ _ (fun _ => hS) ?_
 clear hK K
 try simp only [sY]
 refine onl (i := 12) (some 19) (.call { callee := .value (.func 106), args := #[.tmp 9, .tmp 11, .tmp 18], argTypes := #[24, 22, 22] }) 22 (fun K hK => ?_)
 unfold bareOp
 go_wp2_with (go_at_call 106; refine (r31Power_any _ hP1 PM hG GM UN.o HPW.o).mono ?_; rintro e w2 ⟨rfl, hb2⟩)
 replace F_g := Lh (F_g.o.keep hb2)
 replace F_s := Lh (F_s.o.keep hb2)
 replace HBW := Kt HBW hb2
 replace hS := And.intro F_g.o.s F_s.o.s
 clear hb2
 refine hK.o _ _ (fun _ => hS) ?_
 clear hK K
 try simp only [sY]
 refine tkQ 13 (some 20) (.binOp .mul 22 (.tmp 8) (.tmp 19) 22) 22 ?_
 simp only [sY]
 refine tkQ 16 (some 23) (.binOp .rem 22 (.tmp 20) (.tmp 22) 22) 22 ?_
 simp only [sY]
 refine onl (i := 17) (some 6) (.assign (.tmp 23)) 22 (fun K hK => ?_)
 unfold bareOp
 go_wp2_with fail
 refine hK.o _ _ lt8 ?_
 clear hK K
 try simp only [sY]
 refine wpAnyB_done (by kernel_rfl) ?_ _
 clear hS
 go_wp2_with fail
 go_ret
 exact ⟨rfl, HBW.o⟩
set_option maxHeartbeats 4000000 in
theorem rlist_any {y a b r0 r1 s0 s1 c0 c1 z0 z1 : Int} (w : World) :
 Calls Tryz.prog 110 #[υ y, .agg #[υ a, υ b], .agg #[υ r0, υ r1, υ s0, υ s1, υ c0, υ c1, υ z0, υ z1]] w fun e w' => ∃ B : Nat, e = .returned (.slice (some ⟨B, 0, none⟩) 7 7) ∧ ShL w' (some ⟨B, 0, none⟩) 7 7 [y, a, b, r0, s0, r1, s1] ∧ Below w.heap.size w w' := by
 have F_s := Lh (show Pair (((w.alloc (.cells #[υ a, υ b] 75)).alloc (.cells #[υ r0, υ r1, υ s0, υ s1, υ c0, υ c1, υ z0, υ z1] 31)).alloc (.cells #[υ y, υ a, υ b, υ r0, υ s0, υ r1, υ s1] 22)) (w.heap.size) a b from ((Pair.at _ a b _ (w.heap.size) (by simp)).alloc _).alloc _)
 have F_ms := Lh (show ShL (((w.alloc (.cells #[υ a, υ b] 75)).alloc (.cells #[υ r0, υ r1, υ s0, υ s1, υ c0, υ c1, υ z0, υ z1] 31)).alloc (.cells #[υ y, υ a, υ b, υ r0, υ s0, υ r1, υ s1] 22)) (some ⟨w.heap.size + 1 + 1, 0, none⟩) 7 7 [y, a, b, r0, s0, r1, s1] from ShL.laid _ [y, a, b, r0, s0, r1, s1] _ _ (w.heap.size + 1 + 1) _ _ (by simp) rfl rfl)
 have F_p := Lh (show Arr .u64 (((w.alloc (.cells #[υ a, υ b] 75)).alloc (.cells #[υ r0, υ r1, υ s0, υ s1, υ c0, υ c1, υ z0, υ z1] 31)).alloc (.cells #[υ y, υ a, υ b, υ r0, υ s0, υ r1, υ s1] 22)) (w.heap.size + 1) [r0, r1, s0, s1, c0, c1, z0, z1] from (Arr.new .u64 _ [r0, r1, s0, s1, c0, c1, z0, z1] _ (w.heap.size + 1) (by simp)).alloc _)
 have HBW := Lh (show Below w.heap.size w (((w.alloc (.cells #[υ a, υ b] 75)).alloc (.cells #[υ r0, υ r1, υ s0, υ s1, υ c0, υ c1, υ z0, υ z1] 31)).alloc (.cells #[υ y, υ a, υ b, υ r0, υ s0, υ r1, υ s1] 22)) from (((Below.refl _ _).alloc (by simp <;> omega) _).alloc (by simp <;> omega) _).alloc (by simp <;> omega) _)
 go_enter Tryz.func110, Tryz.ntmps110
 obtain ⟨q1_0, q1_1, q1_2, q1_3, q1_4, q1_5, q1_6, q1_7, q1_8, q1_9, q1_10, q1_11, q1_12, q1_13, q1_14, q1_15⟩ := Arr.k8 F_p.o
 obtain ⟨xa, xb, xc, xd, -⟩ := id F_s.o
 go_wp2_with fail
 go_ret
 exact ⟨_, rfl, F_ms.o, HBW.o⟩
open Go Go.RowKit Num Sha
theorem powm_zero_one {G P : Int} (h : 1 < P) : powm G 0 P = 1 := by
 unfold powm
 simp
 exact Int.emod_eq_of_lt (by omega) h
end Go.Proofs.YtlbldpkgnonbpaaGreatDoor
