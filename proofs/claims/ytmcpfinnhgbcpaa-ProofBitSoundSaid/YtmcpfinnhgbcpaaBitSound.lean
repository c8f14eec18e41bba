/- ProofBitSound: the statement: for every input the law returns true, and the arguments read as before. -/
import Derived.Test.YtmcpfinnhgbcpaaBsA
import Derived.Test.YtmcpfinnhgbcpaaOpenP
import Derived.Test.YtmcpfinnhgbcpaaRows
namespace Go.Proofs.Ytmcpfinnhgbcpaa.lawBitSound
open Go.ChangeShapes Go.WideShapes Go.ChangeAt Go.RowKit Num
set_option linter.unusedSimpArgs false
set_option linter.unusedVariables false


/-- What holds behind the rounds of either loop. -/
structure BsIn (w wr : World) (P Q G a b r0 r1 s0 s1 c0 c1 z0 z1 R0 R1 S0 S1 C0 C1 Z0 Z1 : Int) (X0 X1 : Prop) : Prop where
  box : Boxed wr w.heap.size P Q G
  pr : Pair wr (w.heap.size + 1) a b
  ep : Eight wr (w.heap.size + 1 + 1) r0 r1 s0 s1 c0 c1 z0 z1
  eq : Eight wr (w.heap.size + 1 + 1 + 1) R0 R1 S0 S1 C0 C1 Z0 Z1
  bel : Below w.heap.size w wr
  x0 : X0
  x1 : X1
set_option maxRecDepth 100000 in
set_option maxHeartbeats 16000000 in
theorem walk (P Q G y a b r0 r1 s0 s1 c0 c1 z0 z1 R0 R1 S0 S1 C0 C1 Z0 Z1 cc dd : Int) (w : World) (uP : U64 P) (uQ : U64 Q) (uG : U64 G) (uy : U64 y) (ua : U64 a) (ub : U64 b) (ur0 : U64 r0) (ur1 : U64 r1) (us0 : U64 s0) (us1 : U64 s1) (uc0 : U64 c0) (uc1 : U64 c1) (uz0 : U64 z0) (uz1 : U64 z1) (uR0 : U64 R0) (uR1 : U64 R1) (uS0 : U64 S0) (uS1 : U64 S1) (uC0 : U64 C0) (uC1 : U64 C1) (uZ0 : U64 Z0) (uZ1 : U64 Z1) (ucc : U64 cc) (udd : U64 dd) :
    Calls Try.prog 5 #[.agg #[.int .u64 P, .int .u64 Q, .int .u64 G], .int .u64 y, .agg #[.int .u64 a, .int .u64 b], .agg #[.int .u64 r0, .int .u64 r1, .int .u64 s0, .int .u64 s1, .int .u64 c0, .int .u64 c1, .int .u64 z0, .int .u64 z1], .agg #[.int .u64 R0, .int .u64 R1, .int .u64 S0, .int .u64 S1, .int .u64 C0, .int .u64 C1, .int .u64 Z0, .int .u64 Z1], .int .u64 cc, .int .u64 dd] w fun e w' => e = .returned (.bool true) ∧ Below w.heap.size w w' := by
  have hP := uP.1
  have hQ := uQ.1
  have hG := uG.1
  have hy := uy.1
  have ha := ua.1
  have hb := ub.1
  have hr0 := ur0.1
  have hr1 := ur1.1
  have hs0 := us0.1
  have hs1 := us1.1
  have hc0 := uc0.1
  have hc1 := uc1.1
  have hz0 := uz0.1
  have hz1 := uz1.1
  have hR0 := uR0.1
  have hR1 := uR1.1
  have hS0 := uS0.1
  have hS1 := uS1.1
  have hC0 := uC0.1
  have hC1 := uC1.1
  have hZ0 := uZ0.1
  have hZ1 := uZ1.1
  have hcc := ucc.1
  have hdd := udd.1
  clear uy ua ub ur0 ur1 us0 us1 uc0 uc1 uz0 uz1 uR0 uR1 uS0 uS1 uC0 uC1 uZ0 uZ1 ucc udd
  by_cases hv : Valid P Q G
  case neg =>
    obtain ⟨r_, e_, hvs⟩ := ValS.exists P Q G a b
    have HVS := Lib.hid hvs
    clear hvs
    have HV := Lib.hid (show ValidS P Q G 300 from .inr ⟨hv, rfl⟩)
    clear hv
    have F_g := Lib.hid (show Boxed ((((w.alloc (.cells #[.int .u64 P, .int .u64 Q, .int .u64 G] 24)).alloc (.cells #[.int .u64 a, .int .u64 b] 38)).alloc (.cells #[.int .u64 r0, .int .u64 r1, .int .u64 s0, .int .u64 s1, .int .u64 c0, .int .u64 c1, .int .u64 z0, .int .u64 z1] 42)).alloc (.cells #[.int .u64 R0, .int .u64 R1, .int .u64 S0, .int .u64 S1, .int .u64 C0, .int .u64 C1, .int .u64 Z0, .int .u64 Z1] 42)) w.heap.size P Q G from (((Boxed.at _ P Q G _ w.heap.size rfl).alloc _).alloc _).alloc _)
    have F_s := Lib.hid (show Pair ((((w.alloc (.cells #[.int .u64 P, .int .u64 Q, .int .u64 G] 24)).alloc (.cells #[.int .u64 a, .int .u64 b] 38)).alloc (.cells #[.int .u64 r0, .int .u64 r1, .int .u64 s0, .int .u64 s1, .int .u64 c0, .int .u64 c1, .int .u64 z0, .int .u64 z1] 42)).alloc (.cells #[.int .u64 R0, .int .u64 R1, .int .u64 S0, .int .u64 S1, .int .u64 C0, .int .u64 C1, .int .u64 Z0, .int .u64 Z1] 42)) (w.heap.size + 1) a b from ((Pair.at _ a b _ (w.heap.size + 1) (by simp)).alloc _).alloc _)
    have F_p := Lib.hid (show Eight ((((w.alloc (.cells #[.int .u64 P, .int .u64 Q, .int .u64 G] 24)).alloc (.cells #[.int .u64 a, .int .u64 b] 38)).alloc (.cells #[.int .u64 r0, .int .u64 r1, .int .u64 s0, .int .u64 s1, .int .u64 c0, .int .u64 c1, .int .u64 z0, .int .u64 z1] 42)).alloc (.cells #[.int .u64 R0, .int .u64 R1, .int .u64 S0, .int .u64 S1, .int .u64 C0, .int .u64 C1, .int .u64 Z0, .int .u64 Z1] 42)) (w.heap.size + 1 + 1) r0 r1 s0 s1 c0 c1 z0 z1 from (Eight.at _ r0 r1 s0 s1 c0 c1 z0 z1 _ (w.heap.size + 1 + 1) (by simp)).alloc _)
    have F_q := Lib.hid (show Eight ((((w.alloc (.cells #[.int .u64 P, .int .u64 Q, .int .u64 G] 24)).alloc (.cells #[.int .u64 a, .int .u64 b] 38)).alloc (.cells #[.int .u64 r0, .int .u64 r1, .int .u64 s0, .int .u64 s1, .int .u64 c0, .int .u64 c1, .int .u64 z0, .int .u64 z1] 42)).alloc (.cells #[.int .u64 R0, .int .u64 R1, .int .u64 S0, .int .u64 S1, .int .u64 C0, .int .u64 C1, .int .u64 Z0, .int .u64 Z1] 42)) (w.heap.size + 1 + 1 + 1) R0 R1 S0 S1 C0 C1 Z0 Z1 from Eight.at _ R0 R1 S0 S1 C0 C1 Z0 Z1 _ (w.heap.size + 1 + 1 + 1) (by simp))
    have HBW := Lib.hid (show Below w.heap.size w ((((w.alloc (.cells #[.int .u64 P, .int .u64 Q, .int .u64 G] 24)).alloc (.cells #[.int .u64 a, .int .u64 b] 38)).alloc (.cells #[.int .u64 r0, .int .u64 r1, .int .u64 s0, .int .u64 s1, .int .u64 c0, .int .u64 c1, .int .u64 z0, .int .u64 z1] 42)).alloc (.cells #[.int .u64 R0, .int .u64 R1, .int .u64 S0, .int .u64 S1, .int .u64 C0, .int .u64 C1, .int .u64 Z0, .int .u64 Z1] 42)) from ((((Below.refl _ _).alloc (by simp <;> omega) _).alloc (by simp <;> omega) _).alloc (by simp <;> omega) _).alloc (by simp <;> omega) _)
    go_enter Try.func5, Try.ntmps5
    obtain ⟨q0, q1, q2, -⟩ := id F_g.out
    obtain ⟨q3, q4, q5, q6, -⟩ := id F_s.out
    obtain ⟨p0, p1, p2_, p3_, p4_, p5_, p6_, p7_, -⟩ := id F_p.out
    obtain ⟨t0, t1, t2, t3, t4, t5, t6, t7, -⟩ := id F_q.out
    go_wp2_with fail
    clear q0 q1 q2 q3 q4 q5 q6 p0 p1 p2_ p3_ p4_ p5_ p6_ p7_ t0 t1 t2 t3 t4 t5 t6 t7
    refine (alive_yes _).mono ?_
    rintro e w1 ⟨rfl, hb1⟩
    replace F_g := Lib.hid (F_g.out.keep hb1)
    replace F_s := Lib.hid (F_s.out.keep hb1)
    replace F_p := Lib.hid (F_p.out.keep hb1)
    replace F_q := Lib.hid (F_q.out.keep hb1)
    replace HBW := Lib.hid (HBW.out.trans (hb1.mono HBW.out.size))
    clear hb1
    obtain ⟨q0, q1, q2, -⟩ := id F_g.out
    obtain ⟨q3, q4, q5, q6, -⟩ := id F_s.out
    obtain ⟨p0, p1, p2_, p3_, p4_, p5_, p6_, p7_, -⟩ := id F_p.out
    obtain ⟨t0, t1, t2, t3, t4, t5, t6, t7, -⟩ := id F_q.out
    go_wp2_with fail
    clear q0 q1 q2 q3 q4 q5 q6 p0 p1 p2_ p3_ p4_ p5_ p6_ p7_ t0 t1 t2 t3 t4 t5 t6 t7
    refine (evalid_gen _ hP hQ hG ha hb HVS.out).mono ?_
    rintro e w2 ⟨rfl, hb2⟩
    replace F_g := Lib.hid (F_g.out.keep hb2)
    replace F_s := Lib.hid (F_s.out.keep hb2)
    replace F_p := Lib.hid (F_p.out.keep hb2)
    replace F_q := Lib.hid (F_q.out.keep hb2)
    replace HBW := Lib.hid (HBW.out.trans (hb2.mono HBW.out.size))
    clear hb2
    obtain ⟨q0, q1, q2, -⟩ := id F_g.out
    obtain ⟨q3, q4, q5, q6, -⟩ := id F_s.out
    obtain ⟨p0, p1, p2_, p3_, p4_, p5_, p6_, p7_, -⟩ := id F_p.out
    obtain ⟨t0, t1, t2, t3, t4, t5, t6, t7, -⟩ := id F_q.out
    go_wp2_with fail
    clear q0 q1 q2 q3 q4 q5 q6 p0 p1 p2_ p3_ p4_ p5_ p6_ p7_ t0 t1 t2 t3 t4 t5 t6 t7
    refine (gcheck_any P Q G 300 _ hP hQ hG HV.out).mono ?_
    rintro e w3 ⟨rfl, hb3⟩
    replace F_g := Lib.hid (F_g.out.keep hb3)
    replace F_s := Lib.hid (F_s.out.keep hb3)
    replace F_p := Lib.hid (F_p.out.keep hb3)
    replace F_q := Lib.hid (F_q.out.keep hb3)
    replace HBW := Lib.hid (HBW.out.trans (hb3.mono HBW.out.size))
    clear hb3
    obtain ⟨q0, q1, q2, -⟩ := id F_g.out
    obtain ⟨q3, q4, q5, q6, -⟩ := id F_s.out
    obtain ⟨p0, p1, p2_, p3_, p4_, p5_, p6_, p7_, -⟩ := id F_p.out
    obtain ⟨t0, t1, t2, t3, t4, t5, t6, t7, -⟩ := id F_q.out
    go_wp2_with fail
    go_ret
    exact ⟨rfl, HBW.out⟩
  case pos =>
    have HV := Lib.hid (show ValidS P Q G 0 from .inl ⟨hv, rfl⟩)
    have HG := Lib.hid hv.grp
    have HH := Lib.hid hv.has
    obtain ⟨p5, p3, _, pq, g2, gP⟩ := id hv.1
    have q3 : Q < 1073741824 := by omega
    clear hv pq
    obtain ⟨r_, e_, hvs⟩ := ValS.exists P Q G a b
    by_cases my : Mem P Q y
    case neg =>
      have HM_y := Lib.hid my
      clear my
      have HVS := Lib.hid hvs
      clear hvs
      have F_g := Lib.hid (show Boxed ((((w.alloc (.cells #[.int .u64 P, .int .u64 Q, .int .u64 G] 24)).alloc (.cells #[.int .u64 a, .int .u64 b] 38)).alloc (.cells #[.int .u64 r0, .int .u64 r1, .int .u64 s0, .int .u64 s1, .int .u64 c0, .int .u64 c1, .int .u64 z0, .int .u64 z1] 42)).alloc (.cells #[.int .u64 R0, .int .u64 R1, .int .u64 S0, .int .u64 S1, .int .u64 C0, .int .u64 C1, .int .u64 Z0, .int .u64 Z1] 42)) w.heap.size P Q G from (((Boxed.at _ P Q G _ w.heap.size rfl).alloc _).alloc _).alloc _)
      have F_s := Lib.hid (show Pair ((((w.alloc (.cells #[.int .u64 P, .int .u64 Q, .int .u64 G] 24)).alloc (.cells #[.int .u64 a, .int .u64 b] 38)).alloc (.cells #[.int .u64 r0, .int .u64 r1, .int .u64 s0, .int .u64 s1, .int .u64 c0, .int .u64 c1, .int .u64 z0, .int .u64 z1] 42)).alloc (.cells #[.int .u64 R0, .int .u64 R1, .int .u64 S0, .int .u64 S1, .int .u64 C0, .int .u64 C1, .int .u64 Z0, .int .u64 Z1] 42)) (w.heap.size + 1) a b from ((Pair.at _ a b _ (w.heap.size + 1) (by simp)).alloc _).alloc _)
      have F_p := Lib.hid (show Eight ((((w.alloc (.cells #[.int .u64 P, .int .u64 Q, .int .u64 G] 24)).alloc (.cells #[.int .u64 a, .int .u64 b] 38)).alloc (.cells #[.int .u64 r0, .int .u64 r1, .int .u64 s0, .int .u64 s1, .int .u64 c0, .int .u64 c1, .int .u64 z0, .int .u64 z1] 42)).alloc (.cells #[.int .u64 R0, .int .u64 R1, .int .u64 S0, .int .u64 S1, .int .u64 C0, .int .u64 C1, .int .u64 Z0, .int .u64 Z1] 42)) (w.heap.size + 1 + 1) r0 r1 s0 s1 c0 c1 z0 z1 from (Eight.at _ r0 r1 s0 s1 c0 c1 z0 z1 _ (w.heap.size + 1 + 1) (by simp)).alloc _)
      have F_q := Lib.hid (show Eight ((((w.alloc (.cells #[.int .u64 P, .int .u64 Q, .int .u64 G] 24)).alloc (.cells #[.int .u64 a, .int .u64 b] 38)).alloc (.cells #[.int .u64 r0, .int .u64 r1, .int .u64 s0, .int .u64 s1, .int .u64 c0, .int .u64 c1, .int .u64 z0, .int .u64 z1] 42)).alloc (.cells #[.int .u64 R0, .int .u64 R1, .int .u64 S0, .int .u64 S1, .int .u64 C0, .int .u64 C1, .int .u64 Z0, .int .u64 Z1] 42)) (w.heap.size + 1 + 1 + 1) R0 R1 S0 S1 C0 C1 Z0 Z1 from Eight.at _ R0 R1 S0 S1 C0 C1 Z0 Z1 _ (w.heap.size + 1 + 1 + 1) (by simp))
      have HBW := Lib.hid (show Below w.heap.size w ((((w.alloc (.cells #[.int .u64 P, .int .u64 Q, .int .u64 G] 24)).alloc (.cells #[.int .u64 a, .int .u64 b] 38)).alloc (.cells #[.int .u64 r0, .int .u64 r1, .int .u64 s0, .int .u64 s1, .int .u64 c0, .int .u64 c1, .int .u64 z0, .int .u64 z1] 42)).alloc (.cells #[.int .u64 R0, .int .u64 R1, .int .u64 S0, .int .u64 S1, .int .u64 C0, .int .u64 C1, .int .u64 Z0, .int .u64 Z1] 42)) from ((((Below.refl _ _).alloc (by simp <;> omega) _).alloc (by simp <;> omega) _).alloc (by simp <;> omega) _).alloc (by simp <;> omega) _)
      go_enter Try.func5, Try.ntmps5
      obtain ⟨q0, q1, q2, -⟩ := id F_g.out
      obtain ⟨q3, q4, q5, q6, -⟩ := id F_s.out
      obtain ⟨p0, p1, p2_, p3_, p4_, p5_, p6_, p7_, -⟩ := id F_p.out
      obtain ⟨t0, t1, t2, t3, t4, t5, t6, t7, -⟩ := id F_q.out
      go_wp2_with fail
      clear q0 q1 q2 q3 q4 q5 q6 p0 p1 p2_ p3_ p4_ p5_ p6_ p7_ t0 t1 t2 t3 t4 t5 t6 t7
      refine (alive_yes _).mono ?_
      rintro e w1 ⟨rfl, hb1⟩
      replace F_g := Lib.hid (F_g.out.keep hb1)
      replace F_s := Lib.hid (F_s.out.keep hb1)
      replace F_p := Lib.hid (F_p.out.keep hb1)
      replace F_q := Lib.hid (F_q.out.keep hb1)
      replace HBW := Lib.hid (HBW.out.trans (hb1.mono HBW.out.size))
      clear hb1
      obtain ⟨q0, q1, q2, -⟩ := id F_g.out
      obtain ⟨q3, q4, q5, q6, -⟩ := id F_s.out
      obtain ⟨p0, p1, p2_, p3_, p4_, p5_, p6_, p7_, -⟩ := id F_p.out
      obtain ⟨t0, t1, t2, t3, t4, t5, t6, t7, -⟩ := id F_q.out
      go_wp2_with fail
      clear q0 q1 q2 q3 q4 q5 q6 p0 p1 p2_ p3_ p4_ p5_ p6_ p7_ t0 t1 t2 t3 t4 t5 t6 t7
      refine (evalid_gen _ hP hQ hG ha hb HVS.out).mono ?_
      rintro e w2 ⟨rfl, hb2⟩
      replace F_g := Lib.hid (F_g.out.keep hb2)
      replace F_s := Lib.hid (F_s.out.keep hb2)
      replace F_p := Lib.hid (F_p.out.keep hb2)
      replace F_q := Lib.hid (F_q.out.keep hb2)
      replace HBW := Lib.hid (HBW.out.trans (hb2.mono HBW.out.size))
      clear hb2
      obtain ⟨q0, q1, q2, -⟩ := id F_g.out
      obtain ⟨q3, q4, q5, q6, -⟩ := id F_s.out
      obtain ⟨p0, p1, p2_, p3_, p4_, p5_, p6_, p7_, -⟩ := id F_p.out
      obtain ⟨t0, t1, t2, t3, t4, t5, t6, t7, -⟩ := id F_q.out
      go_wp2_with fail
      clear q0 q1 q2 q3 q4 q5 q6 p0 p1 p2_ p3_ p4_ p5_ p6_ p7_ t0 t1 t2 t3 t4 t5 t6 t7
      refine (gcheck_any P Q G 0 _ hP hQ hG HV.out).mono ?_
      rintro e w3 ⟨rfl, hb3⟩
      replace F_g := Lib.hid (F_g.out.keep hb3)
      replace F_s := Lib.hid (F_s.out.keep hb3)
      replace F_p := Lib.hid (F_p.out.keep hb3)
      replace F_q := Lib.hid (F_q.out.keep hb3)
      replace HBW := Lib.hid (HBW.out.trans (hb3.mono HBW.out.size))
      clear hb3
      obtain ⟨q0, q1, q2, -⟩ := id F_g.out
      obtain ⟨q3, q4, q5, q6, -⟩ := id F_s.out
      obtain ⟨p0, p1, p2_, p3_, p4_, p5_, p6_, p7_, -⟩ := id F_p.out
      obtain ⟨t0, t1, t2, t3, t4, t5, t6, t7, -⟩ := id F_q.out
      go_wp2_with fail
      clear q0 q1 q2 q3 q4 q5 q6 p0 p1 p2_ p3_ p4_ p5_ p6_ p7_ t0 t1 t2 t3 t4 t5 t6 t7
      refine (member_is (r := false) _ hP hQ hG hy (by simp [HM_y.out])).mono ?_
      rintro e w4 ⟨rfl, hb4⟩
      replace F_g := Lib.hid (F_g.out.keep hb4)
      replace F_s := Lib.hid (F_s.out.keep hb4)
      replace F_p := Lib.hid (F_p.out.keep hb4)
      replace F_q := Lib.hid (F_q.out.keep hb4)
      replace HBW := Lib.hid (HBW.out.trans (hb4.mono HBW.out.size))
      clear hb4
      obtain ⟨q0, q1, q2, -⟩ := id F_g.out
      obtain ⟨q3, q4, q5, q6, -⟩ := id F_s.out
      obtain ⟨p0, p1, p2_, p3_, p4_, p5_, p6_, p7_, -⟩ := id F_p.out
      obtain ⟨t0, t1, t2, t3, t4, t5, t6, t7, -⟩ := id F_q.out
      go_wp2_with fail
      go_ret
      exact ⟨rfl, HBW.out⟩
    case pos =>
      have HM_y := Lib.hid my
      clear my
      by_cases he : e_ = 0
      case neg =>
        have hn1 : (e_ != 0) = true := by simpa using he
        clear he
        have HVS := Lib.hid hvs
        clear hvs
        have F_g := Lib.hid (show Boxed ((((w.alloc (.cells #[.int .u64 P, .int .u64 Q, .int .u64 G] 24)).alloc (.cells #[.int .u64 a, .int .u64 b] 38)).alloc (.cells #[.int .u64 r0, .int .u64 r1, .int .u64 s0, .int .u64 s1, .int .u64 c0, .int .u64 c1, .int .u64 z0, .int .u64 z1] 42)).alloc (.cells #[.int .u64 R0, .int .u64 R1, .int .u64 S0, .int .u64 S1, .int .u64 C0, .int .u64 C1, .int .u64 Z0, .int .u64 Z1] 42)) w.heap.size P Q G from (((Boxed.at _ P Q G _ w.heap.size rfl).alloc _).alloc _).alloc _)
        have F_s := Lib.hid (show Pair ((((w.alloc (.cells #[.int .u64 P, .int .u64 Q, .int .u64 G] 24)).alloc (.cells #[.int .u64 a, .int .u64 b] 38)).alloc (.cells #[.int .u64 r0, .int .u64 r1, .int .u64 s0, .int .u64 s1, .int .u64 c0, .int .u64 c1, .int .u64 z0, .int .u64 z1] 42)).alloc (.cells #[.int .u64 R0, .int .u64 R1, .int .u64 S0, .int .u64 S1, .int .u64 C0, .int .u64 C1, .int .u64 Z0, .int .u64 Z1] 42)) (w.heap.size + 1) a b from ((Pair.at _ a b _ (w.heap.size + 1) (by simp)).alloc _).alloc _)
        have F_p := Lib.hid (show Eight ((((w.alloc (.cells #[.int .u64 P, .int .u64 Q, .int .u64 G] 24)).alloc (.cells #[.int .u64 a, .int .u64 b] 38)).alloc (.cells #[.int .u64 r0, .int .u64 r1, .int .u64 s0, .int .u64 s1, .int .u64 c0, .int .u64 c1, .int .u64 z0, .int .u64 z1] 42)).alloc (.cells #[.int .u64 R0, .int .u64 R1, .int .u64 S0, .int .u64 S1, .int .u64 C0, .int .u64 C1, .int .u64 Z0, .int .u64 Z1] 42)) (w.heap.size + 1 + 1) r0 r1 s0 s1 c0 c1 z0 z1 from (Eight.at _ r0 r1 s0 s1 c0 c1 z0 z1 _ (w.heap.size + 1 + 1) (by simp)).alloc _)
        have F_q := Lib.hid (show Eight ((((w.alloc (.cells #[.int .u64 P, .int .u64 Q, .int .u64 G] 24)).alloc (.cells #[.int .u64 a, .int .u64 b] 38)).alloc (.cells #[.int .u64 r0, .int .u64 r1, .int .u64 s0, .int .u64 s1, .int .u64 c0, .int .u64 c1, .int .u64 z0, .int .u64 z1] 42)).alloc (.cells #[.int .u64 R0, .int .u64 R1, .int .u64 S0, .int .u64 S1, .int .u64 C0, .int .u64 C1, .int .u64 Z0, .int .u64 Z1] 42)) (w.heap.size + 1 + 1 + 1) R0 R1 S0 S1 C0 C1 Z0 Z1 from Eight.at _ R0 R1 S0 S1 C0 C1 Z0 Z1 _ (w.heap.size + 1 + 1 + 1) (by simp))
        have HBW := Lib.hid (show Below w.heap.size w ((((w.alloc (.cells #[.int .u64 P, .int .u64 Q, .int .u64 G] 24)).alloc (.cells #[.int .u64 a, .int .u64 b] 38)).alloc (.cells #[.int .u64 r0, .int .u64 r1, .int .u64 s0, .int .u64 s1, .int .u64 c0, .int .u64 c1, .int .u64 z0, .int .u64 z1] 42)).alloc (.cells #[.int .u64 R0, .int .u64 R1, .int .u64 S0, .int .u64 S1, .int .u64 C0, .int .u64 C1, .int .u64 Z0, .int .u64 Z1] 42)) from ((((Below.refl _ _).alloc (by simp <;> omega) _).alloc (by simp <;> omega) _).alloc (by simp <;> omega) _).alloc (by simp <;> omega) _)
        go_enter Try.func5, Try.ntmps5
        obtain ⟨q0, q1, q2, -⟩ := id F_g.out
        obtain ⟨q3, q4, q5, q6, -⟩ := id F_s.out
        obtain ⟨p0, p1, p2_, p3_, p4_, p5_, p6_, p7_, -⟩ := id F_p.out
        obtain ⟨t0, t1, t2, t3, t4, t5, t6, t7, -⟩ := id F_q.out
        go_wp2_with fail
        clear q0 q1 q2 q3 q4 q5 q6 p0 p1 p2_ p3_ p4_ p5_ p6_ p7_ t0 t1 t2 t3 t4 t5 t6 t7
        refine (alive_yes _).mono ?_
        rintro e w1 ⟨rfl, hb1⟩
        replace F_g := Lib.hid (F_g.out.keep hb1)
        replace F_s := Lib.hid (F_s.out.keep hb1)
        replace F_p := Lib.hid (F_p.out.keep hb1)
        replace F_q := Lib.hid (F_q.out.keep hb1)
        replace HBW := Lib.hid (HBW.out.trans (hb1.mono HBW.out.size))
        clear hb1
        obtain ⟨q0, q1, q2, -⟩ := id F_g.out
        obtain ⟨q3, q4, q5, q6, -⟩ := id F_s.out
        obtain ⟨p0, p1, p2_, p3_, p4_, p5_, p6_, p7_, -⟩ := id F_p.out
        obtain ⟨t0, t1, t2, t3, t4, t5, t6, t7, -⟩ := id F_q.out
        go_wp2_with fail
        clear q0 q1 q2 q3 q4 q5 q6 p0 p1 p2_ p3_ p4_ p5_ p6_ p7_ t0 t1 t2 t3 t4 t5 t6 t7
        refine (evalid_gen _ hP hQ hG ha hb HVS.out).mono ?_
        rintro e w2 ⟨rfl, hb2⟩
        replace F_g := Lib.hid (F_g.out.keep hb2)
        replace F_s := Lib.hid (F_s.out.keep hb2)
        replace F_p := Lib.hid (F_p.out.keep hb2)
        replace F_q := Lib.hid (F_q.out.keep hb2)
        replace HBW := Lib.hid (HBW.out.trans (hb2.mono HBW.out.size))
        clear hb2
        obtain ⟨q0, q1, q2, -⟩ := id F_g.out
        obtain ⟨q3, q4, q5, q6, -⟩ := id F_s.out
        obtain ⟨p0, p1, p2_, p3_, p4_, p5_, p6_, p7_, -⟩ := id F_p.out
        obtain ⟨t0, t1, t2, t3, t4, t5, t6, t7, -⟩ := id F_q.out
        go_wp2_with fail
        clear q0 q1 q2 q3 q4 q5 q6 p0 p1 p2_ p3_ p4_ p5_ p6_ p7_ t0 t1 t2 t3 t4 t5 t6 t7
        refine (gcheck_any P Q G 0 _ hP hQ hG HV.out).mono ?_
        rintro e w3 ⟨rfl, hb3⟩
        replace F_g := Lib.hid (F_g.out.keep hb3)
        replace F_s := Lib.hid (F_s.out.keep hb3)
        replace F_p := Lib.hid (F_p.out.keep hb3)
        replace F_q := Lib.hid (F_q.out.keep hb3)
        replace HBW := Lib.hid (HBW.out.trans (hb3.mono HBW.out.size))
        clear hb3
        obtain ⟨q0, q1, q2, -⟩ := id F_g.out
        obtain ⟨q3, q4, q5, q6, -⟩ := id F_s.out
        obtain ⟨p0, p1, p2_, p3_, p4_, p5_, p6_, p7_, -⟩ := id F_p.out
        obtain ⟨t0, t1, t2, t3, t4, t5, t6, t7, -⟩ := id F_q.out
        go_wp2_with fail
        clear q0 q1 q2 q3 q4 q5 q6 p0 p1 p2_ p3_ p4_ p5_ p6_ p7_ t0 t1 t2 t3 t4 t5 t6 t7
        refine (member_is (r := true) _ hP hQ hG hy (by simp [HM_y.out, HH.out])).mono ?_
        rintro e w4 ⟨rfl, hb4⟩
        replace F_g := Lib.hid (F_g.out.keep hb4)
        replace F_s := Lib.hid (F_s.out.keep hb4)
        replace F_p := Lib.hid (F_p.out.keep hb4)
        replace F_q := Lib.hid (F_q.out.keep hb4)
        replace HBW := Lib.hid (HBW.out.trans (hb4.mono HBW.out.size))
        clear hb4
        obtain ⟨q0, q1, q2, -⟩ := id F_g.out
        obtain ⟨q3, q4, q5, q6, -⟩ := id F_s.out
        obtain ⟨p0, p1, p2_, p3_, p4_, p5_, p6_, p7_, -⟩ := id F_p.out
        obtain ⟨t0, t1, t2, t3, t4, t5, t6, t7, -⟩ := id F_q.out
        go_wp2_with fail
        go_ret
        exact ⟨rfl, HBW.out⟩
      case pos =>
        subst he
        by_cases hr_ : r_ = true
        case neg =>
          have hb_ : r_ = false := by simpa using hr_
          subst hb_
          clear hr_
          have HVS := Lib.hid hvs
          clear hvs
          have F_g := Lib.hid (show Boxed ((((w.alloc (.cells #[.int .u64 P, .int .u64 Q, .int .u64 G] 24)).alloc (.cells #[.int .u64 a, .int .u64 b] 38)).alloc (.cells #[.int .u64 r0, .int .u64 r1, .int .u64 s0, .int .u64 s1, .int .u64 c0, .int .u64 c1, .int .u64 z0, .int .u64 z1] 42)).alloc (.cells #[.int .u64 R0, .int .u64 R1, .int .u64 S0, .int .u64 S1, .int .u64 C0, .int .u64 C1, .int .u64 Z0, .int .u64 Z1] 42)) w.heap.size P Q G from (((Boxed.at _ P Q G _ w.heap.size rfl).alloc _).alloc _).alloc _)
          have F_s := Lib.hid (show Pair ((((w.alloc (.cells #[.int .u64 P, .int .u64 Q, .int .u64 G] 24)).alloc (.cells #[.int .u64 a, .int .u64 b] 38)).alloc (.cells #[.int .u64 r0, .int .u64 r1, .int .u64 s0, .int .u64 s1, .int .u64 c0, .int .u64 c1, .int .u64 z0, .int .u64 z1] 42)).alloc (.cells #[.int .u64 R0, .int .u64 R1, .int .u64 S0, .int .u64 S1, .int .u64 C0, .int .u64 C1, .int .u64 Z0, .int .u64 Z1] 42)) (w.heap.size + 1) a b from ((Pair.at _ a b _ (w.heap.size + 1) (by simp)).alloc _).alloc _)
          have F_p := Lib.hid (show Eight ((((w.alloc (.cells #[.int .u64 P, .int .u64 Q, .int .u64 G] 24)).alloc (.cells #[.int .u64 a, .int .u64 b] 38)).alloc (.cells #[.int .u64 r0, .int .u64 r1, .int .u64 s0, .int .u64 s1, .int .u64 c0, .int .u64 c1, .int .u64 z0, .int .u64 z1] 42)).alloc (.cells #[.int .u64 R0, .int .u64 R1, .int .u64 S0, .int .u64 S1, .int .u64 C0, .int .u64 C1, .int .u64 Z0, .int .u64 Z1] 42)) (w.heap.size + 1 + 1) r0 r1 s0 s1 c0 c1 z0 z1 from (Eight.at _ r0 r1 s0 s1 c0 c1 z0 z1 _ (w.heap.size + 1 + 1) (by simp)).alloc _)
          have F_q := Lib.hid (show Eight ((((w.alloc (.cells #[.int .u64 P, .int .u64 Q, .int .u64 G] 24)).alloc (.cells #[.int .u64 a, .int .u64 b] 38)).alloc (.cells #[.int .u64 r0, .int .u64 r1, .int .u64 s0, .int .u64 s1, .int .u64 c0, .int .u64 c1, .int .u64 z0, .int .u64 z1] 42)).alloc (.cells #[.int .u64 R0, .int .u64 R1, .int .u64 S0, .int .u64 S1, .int .u64 C0, .int .u64 C1, .int .u64 Z0, .int .u64 Z1] 42)) (w.heap.size + 1 + 1 + 1) R0 R1 S0 S1 C0 C1 Z0 Z1 from Eight.at _ R0 R1 S0 S1 C0 C1 Z0 Z1 _ (w.heap.size + 1 + 1 + 1) (by simp))
          have HBW := Lib.hid (show Below w.heap.size w ((((w.alloc (.cells #[.int .u64 P, .int .u64 Q, .int .u64 G] 24)).alloc (.cells #[.int .u64 a, .int .u64 b] 38)).alloc (.cells #[.int .u64 r0, .int .u64 r1, .int .u64 s0, .int .u64 s1, .int .u64 c0, .int .u64 c1, .int .u64 z0, .int .u64 z1] 42)).alloc (.cells #[.int .u64 R0, .int .u64 R1, .int .u64 S0, .int .u64 S1, .int .u64 C0, .int .u64 C1, .int .u64 Z0, .int .u64 Z1] 42)) from ((((Below.refl _ _).alloc (by simp <;> omega) _).alloc (by simp <;> omega) _).alloc (by simp <;> omega) _).alloc (by simp <;> omega) _)
          go_enter Try.func5, Try.ntmps5
          obtain ⟨q0, q1, q2, -⟩ := id F_g.out
          obtain ⟨q3, q4, q5, q6, -⟩ := id F_s.out
          obtain ⟨p0, p1, p2_, p3_, p4_, p5_, p6_, p7_, -⟩ := id F_p.out
          obtain ⟨t0, t1, t2, t3, t4, t5, t6, t7, -⟩ := id F_q.out
          go_wp2_with fail
          clear q0 q1 q2 q3 q4 q5 q6 p0 p1 p2_ p3_ p4_ p5_ p6_ p7_ t0 t1 t2 t3 t4 t5 t6 t7
          refine (alive_yes _).mono ?_
          rintro e w1 ⟨rfl, hb1⟩
          replace F_g := Lib.hid (F_g.out.keep hb1)
          replace F_s := Lib.hid (F_s.out.keep hb1)
          replace F_p := Lib.hid (F_p.out.keep hb1)
          replace F_q := Lib.hid (F_q.out.keep hb1)
          replace HBW := Lib.hid (HBW.out.trans (hb1.mono HBW.out.size))
          clear hb1
          obtain ⟨q0, q1, q2, -⟩ := id F_g.out
          obtain ⟨q3, q4, q5, q6, -⟩ := id F_s.out
          obtain ⟨p0, p1, p2_, p3_, p4_, p5_, p6_, p7_, -⟩ := id F_p.out
          obtain ⟨t0, t1, t2, t3, t4, t5, t6, t7, -⟩ := id F_q.out
          go_wp2_with fail
          clear q0 q1 q2 q3 q4 q5 q6 p0 p1 p2_ p3_ p4_ p5_ p6_ p7_ t0 t1 t2 t3 t4 t5 t6 t7
          refine (evalid_gen _ hP hQ hG ha hb HVS.out).mono ?_
          rintro e w2 ⟨rfl, hb2⟩
          replace F_g := Lib.hid (F_g.out.keep hb2)
          replace F_s := Lib.hid (F_s.out.keep hb2)
          replace F_p := Lib.hid (F_p.out.keep hb2)
          replace F_q := Lib.hid (F_q.out.keep hb2)
          replace HBW := Lib.hid (HBW.out.trans (hb2.mono HBW.out.size))
          clear hb2
          obtain ⟨q0, q1, q2, -⟩ := id F_g.out
          obtain ⟨q3, q4, q5, q6, -⟩ := id F_s.out
          obtain ⟨p0, p1, p2_, p3_, p4_, p5_, p6_, p7_, -⟩ := id F_p.out
          obtain ⟨t0, t1, t2, t3, t4, t5, t6, t7, -⟩ := id F_q.out
          go_wp2_with fail
          clear q0 q1 q2 q3 q4 q5 q6 p0 p1 p2_ p3_ p4_ p5_ p6_ p7_ t0 t1 t2 t3 t4 t5 t6 t7
          refine (gcheck_any P Q G 0 _ hP hQ hG HV.out).mono ?_
          rintro e w3 ⟨rfl, hb3⟩
          replace F_g := Lib.hid (F_g.out.keep hb3)
          replace F_s := Lib.hid (F_s.out.keep hb3)
          replace F_p := Lib.hid (F_p.out.keep hb3)
          replace F_q := Lib.hid (F_q.out.keep hb3)
          replace HBW := Lib.hid (HBW.out.trans (hb3.mono HBW.out.size))
          clear hb3
          obtain ⟨q0, q1, q2, -⟩ := id F_g.out
          obtain ⟨q3, q4, q5, q6, -⟩ := id F_s.out
          obtain ⟨p0, p1, p2_, p3_, p4_, p5_, p6_, p7_, -⟩ := id F_p.out
          obtain ⟨t0, t1, t2, t3, t4, t5, t6, t7, -⟩ := id F_q.out
          go_wp2_with fail
          clear q0 q1 q2 q3 q4 q5 q6 p0 p1 p2_ p3_ p4_ p5_ p6_ p7_ t0 t1 t2 t3 t4 t5 t6 t7
          refine (member_is (r := true) _ hP hQ hG hy (by simp [HM_y.out, HH.out])).mono ?_
          rintro e w4 ⟨rfl, hb4⟩
          replace F_g := Lib.hid (F_g.out.keep hb4)
          replace F_s := Lib.hid (F_s.out.keep hb4)
          replace F_p := Lib.hid (F_p.out.keep hb4)
          replace F_q := Lib.hid (F_q.out.keep hb4)
          replace HBW := Lib.hid (HBW.out.trans (hb4.mono HBW.out.size))
          clear hb4
          obtain ⟨q0, q1, q2, -⟩ := id F_g.out
          obtain ⟨q3, q4, q5, q6, -⟩ := id F_s.out
          obtain ⟨p0, p1, p2_, p3_, p4_, p5_, p6_, p7_, -⟩ := id F_p.out
          obtain ⟨t0, t1, t2, t3, t4, t5, t6, t7, -⟩ := id F_q.out
          go_wp2_with fail
          go_ret
          exact ⟨rfl, HBW.out⟩
        case pos =>
          subst hr_
          have mab : Mem P Q a ∧ Mem P Q b := by
            rcases hvs with ⟨h1, h2, -⟩ | ⟨h1, h2, -⟩
            · exact h2.1 rfl
            · cases h2
          have HMA := Lib.hid mab.1
          have HMB := Lib.hid mab.2
          clear mab
          have HVS := Lib.hid hvs
          clear hvs
          by_cases hq : r0 = R0
          case neg =>
            have hq1 : (r0 == R0) = false := by simpa using hq
            have F_g := Lib.hid (show Boxed ((((w.alloc (.cells #[.int .u64 P, .int .u64 Q, .int .u64 G] 24)).alloc (.cells #[.int .u64 a, .int .u64 b] 38)).alloc (.cells #[.int .u64 r0, .int .u64 r1, .int .u64 s0, .int .u64 s1, .int .u64 c0, .int .u64 c1, .int .u64 z0, .int .u64 z1] 42)).alloc (.cells #[.int .u64 R0, .int .u64 R1, .int .u64 S0, .int .u64 S1, .int .u64 C0, .int .u64 C1, .int .u64 Z0, .int .u64 Z1] 42)) w.heap.size P Q G from (((Boxed.at _ P Q G _ w.heap.size rfl).alloc _).alloc _).alloc _)
            have F_s := Lib.hid (show Pair ((((w.alloc (.cells #[.int .u64 P, .int .u64 Q, .int .u64 G] 24)).alloc (.cells #[.int .u64 a, .int .u64 b] 38)).alloc (.cells #[.int .u64 r0, .int .u64 r1, .int .u64 s0, .int .u64 s1, .int .u64 c0, .int .u64 c1, .int .u64 z0, .int .u64 z1] 42)).alloc (.cells #[.int .u64 R0, .int .u64 R1, .int .u64 S0, .int .u64 S1, .int .u64 C0, .int .u64 C1, .int .u64 Z0, .int .u64 Z1] 42)) (w.heap.size + 1) a b from ((Pair.at _ a b _ (w.heap.size + 1) (by simp)).alloc _).alloc _)
            have F_p := Lib.hid (show Eight ((((w.alloc (.cells #[.int .u64 P, .int .u64 Q, .int .u64 G] 24)).alloc (.cells #[.int .u64 a, .int .u64 b] 38)).alloc (.cells #[.int .u64 r0, .int .u64 r1, .int .u64 s0, .int .u64 s1, .int .u64 c0, .int .u64 c1, .int .u64 z0, .int .u64 z1] 42)).alloc (.cells #[.int .u64 R0, .int .u64 R1, .int .u64 S0, .int .u64 S1, .int .u64 C0, .int .u64 C1, .int .u64 Z0, .int .u64 Z1] 42)) (w.heap.size + 1 + 1) r0 r1 s0 s1 c0 c1 z0 z1 from (Eight.at _ r0 r1 s0 s1 c0 c1 z0 z1 _ (w.heap.size + 1 + 1) (by simp)).alloc _)
            have F_q := Lib.hid (show Eight ((((w.alloc (.cells #[.int .u64 P, .int .u64 Q, .int .u64 G] 24)).alloc (.cells #[.int .u64 a, .int .u64 b] 38)).alloc (.cells #[.int .u64 r0, .int .u64 r1, .int .u64 s0, .int .u64 s1, .int .u64 c0, .int .u64 c1, .int .u64 z0, .int .u64 z1] 42)).alloc (.cells #[.int .u64 R0, .int .u64 R1, .int .u64 S0, .int .u64 S1, .int .u64 C0, .int .u64 C1, .int .u64 Z0, .int .u64 Z1] 42)) (w.heap.size + 1 + 1 + 1) R0 R1 S0 S1 C0 C1 Z0 Z1 from Eight.at _ R0 R1 S0 S1 C0 C1 Z0 Z1 _ (w.heap.size + 1 + 1 + 1) (by simp))
            have HBW := Lib.hid (show Below w.heap.size w ((((w.alloc (.cells #[.int .u64 P, .int .u64 Q, .int .u64 G] 24)).alloc (.cells #[.int .u64 a, .int .u64 b] 38)).alloc (.cells #[.int .u64 r0, .int .u64 r1, .int .u64 s0, .int .u64 s1, .int .u64 c0, .int .u64 c1, .int .u64 z0, .int .u64 z1] 42)).alloc (.cells #[.int .u64 R0, .int .u64 R1, .int .u64 S0, .int .u64 S1, .int .u64 C0, .int .u64 C1, .int .u64 Z0, .int .u64 Z1] 42)) from ((((Below.refl _ _).alloc (by simp <;> omega) _).alloc (by simp <;> omega) _).alloc (by simp <;> omega) _).alloc (by simp <;> omega) _)
            go_enter Try.func5, Try.ntmps5
            obtain ⟨q0, q1, q2, -⟩ := id F_g.out
            obtain ⟨q3, q4, q5, q6, -⟩ := id F_s.out
            obtain ⟨p0, p1, p2_, p3_, p4_, p5_, p6_, p7_, -⟩ := id F_p.out
            obtain ⟨t0, t1, t2, t3, t4, t5, t6, t7, -⟩ := id F_q.out
            go_wp2_with fail
            clear q0 q1 q2 q3 q4 q5 q6 p0 p1 p2_ p3_ p4_ p5_ p6_ p7_ t0 t1 t2 t3 t4 t5 t6 t7
            refine (alive_yes _).mono ?_
            rintro e w1 ⟨rfl, hb1⟩
            replace F_g := Lib.hid (F_g.out.keep hb1)
            replace F_s := Lib.hid (F_s.out.keep hb1)
            replace F_p := Lib.hid (F_p.out.keep hb1)
            replace F_q := Lib.hid (F_q.out.keep hb1)
            replace HBW := Lib.hid (HBW.out.trans (hb1.mono HBW.out.size))
            clear hb1
            obtain ⟨q0, q1, q2, -⟩ := id F_g.out
            obtain ⟨q3, q4, q5, q6, -⟩ := id F_s.out
            obtain ⟨p0, p1, p2_, p3_, p4_, p5_, p6_, p7_, -⟩ := id F_p.out
            obtain ⟨t0, t1, t2, t3, t4, t5, t6, t7, -⟩ := id F_q.out
            go_wp2_with fail
            clear q0 q1 q2 q3 q4 q5 q6 p0 p1 p2_ p3_ p4_ p5_ p6_ p7_ t0 t1 t2 t3 t4 t5 t6 t7
            refine (evalid_gen _ hP hQ hG ha hb HVS.out).mono ?_
            rintro e w2 ⟨rfl, hb2⟩
            replace F_g := Lib.hid (F_g.out.keep hb2)
            replace F_s := Lib.hid (F_s.out.keep hb2)
            replace F_p := Lib.hid (F_p.out.keep hb2)
            replace F_q := Lib.hid (F_q.out.keep hb2)
            replace HBW := Lib.hid (HBW.out.trans (hb2.mono HBW.out.size))
            clear hb2
            obtain ⟨q0, q1, q2, -⟩ := id F_g.out
            obtain ⟨q3, q4, q5, q6, -⟩ := id F_s.out
            obtain ⟨p0, p1, p2_, p3_, p4_, p5_, p6_, p7_, -⟩ := id F_p.out
            obtain ⟨t0, t1, t2, t3, t4, t5, t6, t7, -⟩ := id F_q.out
            go_wp2_with fail
            clear q0 q1 q2 q3 q4 q5 q6 p0 p1 p2_ p3_ p4_ p5_ p6_ p7_ t0 t1 t2 t3 t4 t5 t6 t7
            refine (gcheck_any P Q G 0 _ hP hQ hG HV.out).mono ?_
            rintro e w3 ⟨rfl, hb3⟩
            replace F_g := Lib.hid (F_g.out.keep hb3)
            replace F_s := Lib.hid (F_s.out.keep hb3)
            replace F_p := Lib.hid (F_p.out.keep hb3)
            replace F_q := Lib.hid (F_q.out.keep hb3)
            replace HBW := Lib.hid (HBW.out.trans (hb3.mono HBW.out.size))
            clear hb3
            obtain ⟨q0, q1, q2, -⟩ := id F_g.out
            obtain ⟨q3, q4, q5, q6, -⟩ := id F_s.out
            obtain ⟨p0, p1, p2_, p3_, p4_, p5_, p6_, p7_, -⟩ := id F_p.out
            obtain ⟨t0, t1, t2, t3, t4, t5, t6, t7, -⟩ := id F_q.out
            go_wp2_with fail
            clear q0 q1 q2 q3 q4 q5 q6 p0 p1 p2_ p3_ p4_ p5_ p6_ p7_ t0 t1 t2 t3 t4 t5 t6 t7
            refine (member_is (r := true) _ hP hQ hG hy (by simp [HM_y.out, HH.out])).mono ?_
            rintro e w4 ⟨rfl, hb4⟩
            replace F_g := Lib.hid (F_g.out.keep hb4)
            replace F_s := Lib.hid (F_s.out.keep hb4)
            replace F_p := Lib.hid (F_p.out.keep hb4)
            replace F_q := Lib.hid (F_q.out.keep hb4)
            replace HBW := Lib.hid (HBW.out.trans (hb4.mono HBW.out.size))
            clear hb4
            obtain ⟨q0, q1, q2, -⟩ := id F_g.out
            obtain ⟨q3, q4, q5, q6, -⟩ := id F_s.out
            obtain ⟨p0, p1, p2_, p3_, p4_, p5_, p6_, p7_, -⟩ := id F_p.out
            obtain ⟨t0, t1, t2, t3, t4, t5, t6, t7, -⟩ := id F_q.out
            go_wp2_with fail
            go_ret
            exact ⟨rfl, HBW.out⟩
          case pos =>
            subst hq
            by_cases hq : r1 = R1
            case neg =>
              have hq1 : (r1 == R1) = false := by simpa using hq
              have F_g := Lib.hid (show Boxed ((((w.alloc (.cells #[.int .u64 P, .int .u64 Q, .int .u64 G] 24)).alloc (.cells #[.int .u64 a, .int .u64 b] 38)).alloc (.cells #[.int .u64 r0, .int .u64 r1, .int .u64 s0, .int .u64 s1, .int .u64 c0, .int .u64 c1, .int .u64 z0, .int .u64 z1] 42)).alloc (.cells #[.int .u64 r0, .int .u64 R1, .int .u64 S0, .int .u64 S1, .int .u64 C0, .int .u64 C1, .int .u64 Z0, .int .u64 Z1] 42)) w.heap.size P Q G from (((Boxed.at _ P Q G _ w.heap.size rfl).alloc _).alloc _).alloc _)
              have F_s := Lib.hid (show Pair ((((w.alloc (.cells #[.int .u64 P, .int .u64 Q, .int .u64 G] 24)).alloc (.cells #[.int .u64 a, .int .u64 b] 38)).alloc (.cells #[.int .u64 r0, .int .u64 r1, .int .u64 s0, .int .u64 s1, .int .u64 c0, .int .u64 c1, .int .u64 z0, .int .u64 z1] 42)).alloc (.cells #[.int .u64 r0, .int .u64 R1, .int .u64 S0, .int .u64 S1, .int .u64 C0, .int .u64 C1, .int .u64 Z0, .int .u64 Z1] 42)) (w.heap.size + 1) a b from ((Pair.at _ a b _ (w.heap.size + 1) (by simp)).alloc _).alloc _)
              have F_p := Lib.hid (show Eight ((((w.alloc (.cells #[.int .u64 P, .int .u64 Q, .int .u64 G] 24)).alloc (.cells #[.int .u64 a, .int .u64 b] 38)).alloc (.cells #[.int .u64 r0, .int .u64 r1, .int .u64 s0, .int .u64 s1, .int .u64 c0, .int .u64 c1, .int .u64 z0, .int .u64 z1] 42)).alloc (.cells #[.int .u64 r0, .int .u64 R1, .int .u64 S0, .int .u64 S1, .int .u64 C0, .int .u64 C1, .int .u64 Z0, .int .u64 Z1] 42)) (w.heap.size + 1 + 1) r0 r1 s0 s1 c0 c1 z0 z1 from (Eight.at _ r0 r1 s0 s1 c0 c1 z0 z1 _ (w.heap.size + 1 + 1) (by simp)).alloc _)
              have F_q := Lib.hid (show Eight ((((w.alloc (.cells #[.int .u64 P, .int .u64 Q, .int .u64 G] 24)).alloc (.cells #[.int .u64 a, .int .u64 b] 38)).alloc (.cells #[.int .u64 r0, .int .u64 r1, .int .u64 s0, .int .u64 s1, .int .u64 c0, .int .u64 c1, .int .u64 z0, .int .u64 z1] 42)).alloc (.cells #[.int .u64 r0, .int .u64 R1, .int .u64 S0, .int .u64 S1, .int .u64 C0, .int .u64 C1, .int .u64 Z0, .int .u64 Z1] 42)) (w.heap.size + 1 + 1 + 1) r0 R1 S0 S1 C0 C1 Z0 Z1 from Eight.at _ r0 R1 S0 S1 C0 C1 Z0 Z1 _ (w.heap.size + 1 + 1 + 1) (by simp))
              have HBW := Lib.hid (show Below w.heap.size w ((((w.alloc (.cells #[.int .u64 P, .int .u64 Q, .int .u64 G] 24)).alloc (.cells #[.int .u64 a, .int .u64 b] 38)).alloc (.cells #[.int .u64 r0, .int .u64 r1, .int .u64 s0, .int .u64 s1, .int .u64 c0, .int .u64 c1, .int .u64 z0, .int .u64 z1] 42)).alloc (.cells #[.int .u64 r0, .int .u64 R1, .int .u64 S0, .int .u64 S1, .int .u64 C0, .int .u64 C1, .int .u64 Z0, .int .u64 Z1] 42)) from ((((Below.refl _ _).alloc (by simp <;> omega) _).alloc (by simp <;> omega) _).alloc (by simp <;> omega) _).alloc (by simp <;> omega) _)
              go_enter Try.func5, Try.ntmps5
              obtain ⟨q0, q1, q2, -⟩ := id F_g.out
              obtain ⟨q3, q4, q5, q6, -⟩ := id F_s.out
              obtain ⟨p0, p1, p2_, p3_, p4_, p5_, p6_, p7_, -⟩ := id F_p.out
              obtain ⟨t0, t1, t2, t3, t4, t5, t6, t7, -⟩ := id F_q.out
              go_wp2_with fail
              clear q0 q1 q2 q3 q4 q5 q6 p0 p1 p2_ p3_ p4_ p5_ p6_ p7_ t0 t1 t2 t3 t4 t5 t6 t7
              refine (alive_yes _).mono ?_
              rintro e w1 ⟨rfl, hb1⟩
              replace F_g := Lib.hid (F_g.out.keep hb1)
              replace F_s := Lib.hid (F_s.out.keep hb1)
              replace F_p := Lib.hid (F_p.out.keep hb1)
              replace F_q := Lib.hid (F_q.out.keep hb1)
              replace HBW := Lib.hid (HBW.out.trans (hb1.mono HBW.out.size))
              clear hb1
              obtain ⟨q0, q1, q2, -⟩ := id F_g.out
              obtain ⟨q3, q4, q5, q6, -⟩ := id F_s.out
              obtain ⟨p0, p1, p2_, p3_, p4_, p5_, p6_, p7_, -⟩ := id F_p.out
              obtain ⟨t0, t1, t2, t3, t4, t5, t6, t7, -⟩ := id F_q.out
              go_wp2_with fail
              clear q0 q1 q2 q3 q4 q5 q6 p0 p1 p2_ p3_ p4_ p5_ p6_ p7_ t0 t1 t2 t3 t4 t5 t6 t7
              refine (evalid_gen _ hP hQ hG ha hb HVS.out).mono ?_
              rintro e w2 ⟨rfl, hb2⟩
              replace F_g := Lib.hid (F_g.out.keep hb2)
              replace F_s := Lib.hid (F_s.out.keep hb2)
              replace F_p := Lib.hid (F_p.out.keep hb2)
              replace F_q := Lib.hid (F_q.out.keep hb2)
              replace HBW := Lib.hid (HBW.out.trans (hb2.mono HBW.out.size))
              clear hb2
              obtain ⟨q0, q1, q2, -⟩ := id F_g.out
              obtain ⟨q3, q4, q5, q6, -⟩ := id F_s.out
              obtain ⟨p0, p1, p2_, p3_, p4_, p5_, p6_, p7_, -⟩ := id F_p.out
              obtain ⟨t0, t1, t2, t3, t4, t5, t6, t7, -⟩ := id F_q.out
              go_wp2_with fail
              clear q0 q1 q2 q3 q4 q5 q6 p0 p1 p2_ p3_ p4_ p5_ p6_ p7_ t0 t1 t2 t3 t4 t5 t6 t7
              refine (gcheck_any P Q G 0 _ hP hQ hG HV.out).mono ?_
              rintro e w3 ⟨rfl, hb3⟩
              replace F_g := Lib.hid (F_g.out.keep hb3)
              replace F_s := Lib.hid (F_s.out.keep hb3)
              replace F_p := Lib.hid (F_p.out.keep hb3)
              replace F_q := Lib.hid (F_q.out.keep hb3)
              replace HBW := Lib.hid (HBW.out.trans (hb3.mono HBW.out.size))
              clear hb3
              obtain ⟨q0, q1, q2, -⟩ := id F_g.out
              obtain ⟨q3, q4, q5, q6, -⟩ := id F_s.out
              obtain ⟨p0, p1, p2_, p3_, p4_, p5_, p6_, p7_, -⟩ := id F_p.out
              obtain ⟨t0, t1, t2, t3, t4, t5, t6, t7, -⟩ := id F_q.out
              go_wp2_with fail
              clear q0 q1 q2 q3 q4 q5 q6 p0 p1 p2_ p3_ p4_ p5_ p6_ p7_ t0 t1 t2 t3 t4 t5 t6 t7
              refine (member_is (r := true) _ hP hQ hG hy (by simp [HM_y.out, HH.out])).mono ?_
              rintro e w4 ⟨rfl, hb4⟩
              replace F_g := Lib.hid (F_g.out.keep hb4)
              replace F_s := Lib.hid (F_s.out.keep hb4)
              replace F_p := Lib.hid (F_p.out.keep hb4)
              replace F_q := Lib.hid (F_q.out.keep hb4)
              replace HBW := Lib.hid (HBW.out.trans (hb4.mono HBW.out.size))
              clear hb4
              obtain ⟨q0, q1, q2, -⟩ := id F_g.out
              obtain ⟨q3, q4, q5, q6, -⟩ := id F_s.out
              obtain ⟨p0, p1, p2_, p3_, p4_, p5_, p6_, p7_, -⟩ := id F_p.out
              obtain ⟨t0, t1, t2, t3, t4, t5, t6, t7, -⟩ := id F_q.out
              go_wp2_with fail
              go_ret
              exact ⟨rfl, HBW.out⟩
            case pos =>
              subst hq
              by_cases hq : s0 = S0
              case neg =>
                have hq1 : (s0 == S0) = false := by simpa using hq
                have F_g := Lib.hid (show Boxed ((((w.alloc (.cells #[.int .u64 P, .int .u64 Q, .int .u64 G] 24)).alloc (.cells #[.int .u64 a, .int .u64 b] 38)).alloc (.cells #[.int .u64 r0, .int .u64 r1, .int .u64 s0, .int .u64 s1, .int .u64 c0, .int .u64 c1, .int .u64 z0, .int .u64 z1] 42)).alloc (.cells #[.int .u64 r0, .int .u64 r1, .int .u64 S0, .int .u64 S1, .int .u64 C0, .int .u64 C1, .int .u64 Z0, .int .u64 Z1] 42)) w.heap.size P Q G from (((Boxed.at _ P Q G _ w.heap.size rfl).alloc _).alloc _).alloc _)
                have F_s := Lib.hid (show Pair ((((w.alloc (.cells #[.int .u64 P, .int .u64 Q, .int .u64 G] 24)).alloc (.cells #[.int .u64 a, .int .u64 b] 38)).alloc (.cells #[.int .u64 r0, .int .u64 r1, .int .u64 s0, .int .u64 s1, .int .u64 c0, .int .u64 c1, .int .u64 z0, .int .u64 z1] 42)).alloc (.cells #[.int .u64 r0, .int .u64 r1, .int .u64 S0, .int .u64 S1, .int .u64 C0, .int .u64 C1, .int .u64 Z0, .int .u64 Z1] 42)) (w.heap.size + 1) a b from ((Pair.at _ a b _ (w.heap.size + 1) (by simp)).alloc _).alloc _)
                have F_p := Lib.hid (show Eight ((((w.alloc (.cells #[.int .u64 P, .int .u64 Q, .int .u64 G] 24)).alloc (.cells #[.int .u64 a, .int .u64 b] 38)).alloc (.cells #[.int .u64 r0, .int .u64 r1, .int .u64 s0, .int .u64 s1, .int .u64 c0, .int .u64 c1, .int .u64 z0, .int .u64 z1] 42)).alloc (.cells #[.int .u64 r0, .int .u64 r1, .int .u64 S0, .int .u64 S1, .int .u64 C0, .int .u64 C1, .int .u64 Z0, .int .u64 Z1] 42)) (w.heap.size + 1 + 1) r0 r1 s0 s1 c0 c1 z0 z1 from (Eight.at _ r0 r1 s0 s1 c0 c1 z0 z1 _ (w.heap.size + 1 + 1) (by simp)).alloc _)
                have F_q := Lib.hid (show Eight ((((w.alloc (.cells #[.int .u64 P, .int .u64 Q, .int .u64 G] 24)).alloc (.cells #[.int .u64 a, .int .u64 b] 38)).alloc (.cells #[.int .u64 r0, .int .u64 r1, .int .u64 s0, .int .u64 s1, .int .u64 c0, .int .u64 c1, .int .u64 z0, .int .u64 z1] 42)).alloc (.cells #[.int .u64 r0, .int .u64 r1, .int .u64 S0, .int .u64 S1, .int .u64 C0, .int .u64 C1, .int .u64 Z0, .int .u64 Z1] 42)) (w.heap.size + 1 + 1 + 1) r0 r1 S0 S1 C0 C1 Z0 Z1 from Eight.at _ r0 r1 S0 S1 C0 C1 Z0 Z1 _ (w.heap.size + 1 + 1 + 1) (by simp))
                have HBW := Lib.hid (show Below w.heap.size w ((((w.alloc (.cells #[.int .u64 P, .int .u64 Q, .int .u64 G] 24)).alloc (.cells #[.int .u64 a, .int .u64 b] 38)).alloc (.cells #[.int .u64 r0, .int .u64 r1, .int .u64 s0, .int .u64 s1, .int .u64 c0, .int .u64 c1, .int .u64 z0, .int .u64 z1] 42)).alloc (.cells #[.int .u64 r0, .int .u64 r1, .int .u64 S0, .int .u64 S1, .int .u64 C0, .int .u64 C1, .int .u64 Z0, .int .u64 Z1] 42)) from ((((Below.refl _ _).alloc (by simp <;> omega) _).alloc (by simp <;> omega) _).alloc (by simp <;> omega) _).alloc (by simp <;> omega) _)
                go_enter Try.func5, Try.ntmps5
                obtain ⟨q0, q1, q2, -⟩ := id F_g.out
                obtain ⟨q3, q4, q5, q6, -⟩ := id F_s.out
                obtain ⟨p0, p1, p2_, p3_, p4_, p5_, p6_, p7_, -⟩ := id F_p.out
                obtain ⟨t0, t1, t2, t3, t4, t5, t6, t7, -⟩ := id F_q.out
                go_wp2_with fail
                clear q0 q1 q2 q3 q4 q5 q6 p0 p1 p2_ p3_ p4_ p5_ p6_ p7_ t0 t1 t2 t3 t4 t5 t6 t7
                refine (alive_yes _).mono ?_
                rintro e w1 ⟨rfl, hb1⟩
                replace F_g := Lib.hid (F_g.out.keep hb1)
                replace F_s := Lib.hid (F_s.out.keep hb1)
                replace F_p := Lib.hid (F_p.out.keep hb1)
                replace F_q := Lib.hid (F_q.out.keep hb1)
                replace HBW := Lib.hid (HBW.out.trans (hb1.mono HBW.out.size))
                clear hb1
                obtain ⟨q0, q1, q2, -⟩ := id F_g.out
                obtain ⟨q3, q4, q5, q6, -⟩ := id F_s.out
                obtain ⟨p0, p1, p2_, p3_, p4_, p5_, p6_, p7_, -⟩ := id F_p.out
                obtain ⟨t0, t1, t2, t3, t4, t5, t6, t7, -⟩ := id F_q.out
                go_wp2_with fail
                clear q0 q1 q2 q3 q4 q5 q6 p0 p1 p2_ p3_ p4_ p5_ p6_ p7_ t0 t1 t2 t3 t4 t5 t6 t7
                refine (evalid_gen _ hP hQ hG ha hb HVS.out).mono ?_
                rintro e w2 ⟨rfl, hb2⟩
                replace F_g := Lib.hid (F_g.out.keep hb2)
                replace F_s := Lib.hid (F_s.out.keep hb2)
                replace F_p := Lib.hid (F_p.out.keep hb2)
                replace F_q := Lib.hid (F_q.out.keep hb2)
                replace HBW := Lib.hid (HBW.out.trans (hb2.mono HBW.out.size))
                clear hb2
                obtain ⟨q0, q1, q2, -⟩ := id F_g.out
                obtain ⟨q3, q4, q5, q6, -⟩ := id F_s.out
                obtain ⟨p0, p1, p2_, p3_, p4_, p5_, p6_, p7_, -⟩ := id F_p.out
                obtain ⟨t0, t1, t2, t3, t4, t5, t6, t7, -⟩ := id F_q.out
                go_wp2_with fail
                clear q0 q1 q2 q3 q4 q5 q6 p0 p1 p2_ p3_ p4_ p5_ p6_ p7_ t0 t1 t2 t3 t4 t5 t6 t7
                refine (gcheck_any P Q G 0 _ hP hQ hG HV.out).mono ?_
                rintro e w3 ⟨rfl, hb3⟩
                replace F_g := Lib.hid (F_g.out.keep hb3)
                replace F_s := Lib.hid (F_s.out.keep hb3)
                replace F_p := Lib.hid (F_p.out.keep hb3)
                replace F_q := Lib.hid (F_q.out.keep hb3)
                replace HBW := Lib.hid (HBW.out.trans (hb3.mono HBW.out.size))
                clear hb3
                obtain ⟨q0, q1, q2, -⟩ := id F_g.out
                obtain ⟨q3, q4, q5, q6, -⟩ := id F_s.out
                obtain ⟨p0, p1, p2_, p3_, p4_, p5_, p6_, p7_, -⟩ := id F_p.out
                obtain ⟨t0, t1, t2, t3, t4, t5, t6, t7, -⟩ := id F_q.out
                go_wp2_with fail
                clear q0 q1 q2 q3 q4 q5 q6 p0 p1 p2_ p3_ p4_ p5_ p6_ p7_ t0 t1 t2 t3 t4 t5 t6 t7
                refine (member_is (r := true) _ hP hQ hG hy (by simp [HM_y.out, HH.out])).mono ?_
                rintro e w4 ⟨rfl, hb4⟩
                replace F_g := Lib.hid (F_g.out.keep hb4)
                replace F_s := Lib.hid (F_s.out.keep hb4)
                replace F_p := Lib.hid (F_p.out.keep hb4)
                replace F_q := Lib.hid (F_q.out.keep hb4)
                replace HBW := Lib.hid (HBW.out.trans (hb4.mono HBW.out.size))
                clear hb4
                obtain ⟨q0, q1, q2, -⟩ := id F_g.out
                obtain ⟨q3, q4, q5, q6, -⟩ := id F_s.out
                obtain ⟨p0, p1, p2_, p3_, p4_, p5_, p6_, p7_, -⟩ := id F_p.out
                obtain ⟨t0, t1, t2, t3, t4, t5, t6, t7, -⟩ := id F_q.out
                go_wp2_with fail
                go_ret
                exact ⟨rfl, HBW.out⟩
              case pos =>
                subst hq
                by_cases hq : s1 = S1
                case neg =>
                  have hq1 : (s1 == S1) = false := by simpa using hq
                  have F_g := Lib.hid (show Boxed ((((w.alloc (.cells #[.int .u64 P, .int .u64 Q, .int .u64 G] 24)).alloc (.cells #[.int .u64 a, .int .u64 b] 38)).alloc (.cells #[.int .u64 r0, .int .u64 r1, .int .u64 s0, .int .u64 s1, .int .u64 c0, .int .u64 c1, .int .u64 z0, .int .u64 z1] 42)).alloc (.cells #[.int .u64 r0, .int .u64 r1, .int .u64 s0, .int .u64 S1, .int .u64 C0, .int .u64 C1, .int .u64 Z0, .int .u64 Z1] 42)) w.heap.size P Q G from (((Boxed.at _ P Q G _ w.heap.size rfl).alloc _).alloc _).alloc _)
                  have F_s := Lib.hid (show Pair ((((w.alloc (.cells #[.int .u64 P, .int .u64 Q, .int .u64 G] 24)).alloc (.cells #[.int .u64 a, .int .u64 b] 38)).alloc (.cells #[.int .u64 r0, .int .u64 r1, .int .u64 s0, .int .u64 s1, .int .u64 c0, .int .u64 c1, .int .u64 z0, .int .u64 z1] 42)).alloc (.cells #[.int .u64 r0, .int .u64 r1, .int .u64 s0, .int .u64 S1, .int .u64 C0, .int .u64 C1, .int .u64 Z0, .int .u64 Z1] 42)) (w.heap.size + 1) a b from ((Pair.at _ a b _ (w.heap.size + 1) (by simp)).alloc _).alloc _)
                  have F_p := Lib.hid (show Eight ((((w.alloc (.cells #[.int .u64 P, .int .u64 Q, .int .u64 G] 24)).alloc (.cells #[.int .u64 a, .int .u64 b] 38)).alloc (.cells #[.int .u64 r0, .int .u64 r1, .int .u64 s0, .int .u64 s1, .int .u64 c0, .int .u64 c1, .int .u64 z0, .int .u64 z1] 42)).alloc (.cells #[.int .u64 r0, .int .u64 r1, .int .u64 s0, .int .u64 S1, .int .u64 C0, .int .u64 C1, .int .u64 Z0, .int .u64 Z1] 42)) (w.heap.size + 1 + 1) r0 r1 s0 s1 c0 c1 z0 z1 from (Eight.at _ r0 r1 s0 s1 c0 c1 z0 z1 _ (w.heap.size + 1 + 1) (by simp)).alloc _)
                  have F_q := Lib.hid (show Eight ((((w.alloc (.cells #[.int .u64 P, .int .u64 Q, .int .u64 G] 24)).alloc (.cells #[.int .u64 a, .int .u64 b] 38)).alloc (.cells #[.int .u64 r0, .int .u64 r1, .int .u64 s0, .int .u64 s1, .int .u64 c0, .int .u64 c1, .int .u64 z0, .int .u64 z1] 42)).alloc (.cells #[.int .u64 r0, .int .u64 r1, .int .u64 s0, .int .u64 S1, .int .u64 C0, .int .u64 C1, .int .u64 Z0, .int .u64 Z1] 42)) (w.heap.size + 1 + 1 + 1) r0 r1 s0 S1 C0 C1 Z0 Z1 from Eight.at _ r0 r1 s0 S1 C0 C1 Z0 Z1 _ (w.heap.size + 1 + 1 + 1) (by simp))
                  have HBW := Lib.hid (show Below w.heap.size w ((((w.alloc (.cells #[.int .u64 P, .int .u64 Q, .int .u64 G] 24)).alloc (.cells #[.int .u64 a, .int .u64 b] 38)).alloc (.cells #[.int .u64 r0, .int .u64 r1, .int .u64 s0, .int .u64 s1, .int .u64 c0, .int .u64 c1, .int .u64 z0, .int .u64 z1] 42)).alloc (.cells #[.int .u64 r0, .int .u64 r1, .int .u64 s0, .int .u64 S1, .int .u64 C0, .int .u64 C1, .int .u64 Z0, .int .u64 Z1] 42)) from ((((Below.refl _ _).alloc (by simp <;> omega) _).alloc (by simp <;> omega) _).alloc (by simp <;> omega) _).alloc (by simp <;> omega) _)
                  go_enter Try.func5, Try.ntmps5
                  obtain ⟨q0, q1, q2, -⟩ := id F_g.out
                  obtain ⟨q3, q4, q5, q6, -⟩ := id F_s.out
                  obtain ⟨p0, p1, p2_, p3_, p4_, p5_, p6_, p7_, -⟩ := id F_p.out
                  obtain ⟨t0, t1, t2, t3, t4, t5, t6, t7, -⟩ := id F_q.out
                  go_wp2_with fail
                  clear q0 q1 q2 q3 q4 q5 q6 p0 p1 p2_ p3_ p4_ p5_ p6_ p7_ t0 t1 t2 t3 t4 t5 t6 t7
                  refine (alive_yes _).mono ?_
                  rintro e w1 ⟨rfl, hb1⟩
                  replace F_g := Lib.hid (F_g.out.keep hb1)
                  replace F_s := Lib.hid (F_s.out.keep hb1)
                  replace F_p := Lib.hid (F_p.out.keep hb1)
                  replace F_q := Lib.hid (F_q.out.keep hb1)
                  replace HBW := Lib.hid (HBW.out.trans (hb1.mono HBW.out.size))
                  clear hb1
                  obtain ⟨q0, q1, q2, -⟩ := id F_g.out
                  obtain ⟨q3, q4, q5, q6, -⟩ := id F_s.out
                  obtain ⟨p0, p1, p2_, p3_, p4_, p5_, p6_, p7_, -⟩ := id F_p.out
                  obtain ⟨t0, t1, t2, t3, t4, t5, t6, t7, -⟩ := id F_q.out
                  go_wp2_with fail
                  clear q0 q1 q2 q3 q4 q5 q6 p0 p1 p2_ p3_ p4_ p5_ p6_ p7_ t0 t1 t2 t3 t4 t5 t6 t7
                  refine (evalid_gen _ hP hQ hG ha hb HVS.out).mono ?_
                  rintro e w2 ⟨rfl, hb2⟩
                  replace F_g := Lib.hid (F_g.out.keep hb2)
                  replace F_s := Lib.hid (F_s.out.keep hb2)
                  replace F_p := Lib.hid (F_p.out.keep hb2)
                  replace F_q := Lib.hid (F_q.out.keep hb2)
                  replace HBW := Lib.hid (HBW.out.trans (hb2.mono HBW.out.size))
                  clear hb2
                  obtain ⟨q0, q1, q2, -⟩ := id F_g.out
                  obtain ⟨q3, q4, q5, q6, -⟩ := id F_s.out
                  obtain ⟨p0, p1, p2_, p3_, p4_, p5_, p6_, p7_, -⟩ := id F_p.out
                  obtain ⟨t0, t1, t2, t3, t4, t5, t6, t7, -⟩ := id F_q.out
                  go_wp2_with fail
                  clear q0 q1 q2 q3 q4 q5 q6 p0 p1 p2_ p3_ p4_ p5_ p6_ p7_ t0 t1 t2 t3 t4 t5 t6 t7
                  refine (gcheck_any P Q G 0 _ hP hQ hG HV.out).mono ?_
                  rintro e w3 ⟨rfl, hb3⟩
                  replace F_g := Lib.hid (F_g.out.keep hb3)
                  replace F_s := Lib.hid (F_s.out.keep hb3)
                  replace F_p := Lib.hid (F_p.out.keep hb3)
                  replace F_q := Lib.hid (F_q.out.keep hb3)
                  replace HBW := Lib.hid (HBW.out.trans (hb3.mono HBW.out.size))
                  clear hb3
                  obtain ⟨q0, q1, q2, -⟩ := id F_g.out
                  obtain ⟨q3, q4, q5, q6, -⟩ := id F_s.out
                  obtain ⟨p0, p1, p2_, p3_, p4_, p5_, p6_, p7_, -⟩ := id F_p.out
                  obtain ⟨t0, t1, t2, t3, t4, t5, t6, t7, -⟩ := id F_q.out
                  go_wp2_with fail
                  clear q0 q1 q2 q3 q4 q5 q6 p0 p1 p2_ p3_ p4_ p5_ p6_ p7_ t0 t1 t2 t3 t4 t5 t6 t7
                  refine (member_is (r := true) _ hP hQ hG hy (by simp [HM_y.out, HH.out])).mono ?_
                  rintro e w4 ⟨rfl, hb4⟩
                  replace F_g := Lib.hid (F_g.out.keep hb4)
                  replace F_s := Lib.hid (F_s.out.keep hb4)
                  replace F_p := Lib.hid (F_p.out.keep hb4)
                  replace F_q := Lib.hid (F_q.out.keep hb4)
                  replace HBW := Lib.hid (HBW.out.trans (hb4.mono HBW.out.size))
                  clear hb4
                  obtain ⟨q0, q1, q2, -⟩ := id F_g.out
                  obtain ⟨q3, q4, q5, q6, -⟩ := id F_s.out
                  obtain ⟨p0, p1, p2_, p3_, p4_, p5_, p6_, p7_, -⟩ := id F_p.out
                  obtain ⟨t0, t1, t2, t3, t4, t5, t6, t7, -⟩ := id F_q.out
                  go_wp2_with fail
                  go_ret
                  exact ⟨rfl, HBW.out⟩
                case pos =>
                  subst hq
                  by_cases hne : cc = dd
                  case neg =>
                    have hcd : (cc == dd) = false := by simpa using hne
                    have HNE := Lib.hid hne
                    clear hne
                    obtain ⟨nn, hnn⟩ : ∃ nn, (0 - 1) % Q = nn := ⟨_, rfl⟩
                    obtain ⟨pp, hpp⟩ : ∃ pp, powm G nn P = pp := ⟨_, rfl⟩
                    obtain ⟨t, htt⟩ : ∃ t, b * pp % P = t := ⟨_, rfl⟩
                    have HNN := Lib.hid hnn
                    have HPP := Lib.hid hpp
                    have HTT := Lib.hid htt
                    clear hnn hpp htt
                    obtain ⟨v1, e1, h1⟩ := RetB.exists (askS P Q G [cc, c0, c1, z0, z1] [y, a, b, r0, r1, s0, s1]) ((powm G z0 P = r0 * powm a c0 P % P ∧ powm y z0 P = s0 * powm b c0 P % P) ∧ (powm G z1 P = r1 * powm a c1 P % P ∧ powm y z1 P = s1 * powm t c1 P % P) ∧ (c0 + c1) % Q = cc)
                    obtain ⟨v2, e2, h2⟩ := RetB.exists (askS P Q G [dd, C0, C1, Z0, Z1] [y, a, b, r0, r1, s0, s1]) ((powm G Z0 P = r0 * powm a C0 P % P ∧ powm y Z0 P = s0 * powm b C0 P % P) ∧ (powm G Z1 P = r1 * powm a C1 P % P ∧ powm y Z1 P = s1 * powm t C1 P % P) ∧ (C0 + C1) % Q = dd)
                    have HB1 := Lib.hid h1
                    have HB2 := Lib.hid h2
                    clear h1 h2
                    have F_g := Lib.hid (show Boxed ((((w.alloc (.cells #[.int .u64 P, .int .u64 Q, .int .u64 G] 24)).alloc (.cells #[.int .u64 a, .int .u64 b] 38)).alloc (.cells #[.int .u64 r0, .int .u64 r1, .int .u64 s0, .int .u64 s1, .int .u64 c0, .int .u64 c1, .int .u64 z0, .int .u64 z1] 42)).alloc (.cells #[.int .u64 r0, .int .u64 r1, .int .u64 s0, .int .u64 s1, .int .u64 C0, .int .u64 C1, .int .u64 Z0, .int .u64 Z1] 42)) w.heap.size P Q G from (((Boxed.at _ P Q G _ w.heap.size rfl).alloc _).alloc _).alloc _)
                    have F_s := Lib.hid (show Pair ((((w.alloc (.cells #[.int .u64 P, .int .u64 Q, .int .u64 G] 24)).alloc (.cells #[.int .u64 a, .int .u64 b] 38)).alloc (.cells #[.int .u64 r0, .int .u64 r1, .int .u64 s0, .int .u64 s1, .int .u64 c0, .int .u64 c1, .int .u64 z0, .int .u64 z1] 42)).alloc (.cells #[.int .u64 r0, .int .u64 r1, .int .u64 s0, .int .u64 s1, .int .u64 C0, .int .u64 C1, .int .u64 Z0, .int .u64 Z1] 42)) (w.heap.size + 1) a b from ((Pair.at _ a b _ (w.heap.size + 1) (by simp)).alloc _).alloc _)
                    have F_p := Lib.hid (show Eight ((((w.alloc (.cells #[.int .u64 P, .int .u64 Q, .int .u64 G] 24)).alloc (.cells #[.int .u64 a, .int .u64 b] 38)).alloc (.cells #[.int .u64 r0, .int .u64 r1, .int .u64 s0, .int .u64 s1, .int .u64 c0, .int .u64 c1, .int .u64 z0, .int .u64 z1] 42)).alloc (.cells #[.int .u64 r0, .int .u64 r1, .int .u64 s0, .int .u64 s1, .int .u64 C0, .int .u64 C1, .int .u64 Z0, .int .u64 Z1] 42)) (w.heap.size + 1 + 1) r0 r1 s0 s1 c0 c1 z0 z1 from (Eight.at _ r0 r1 s0 s1 c0 c1 z0 z1 _ (w.heap.size + 1 + 1) (by simp)).alloc _)
                    have F_q := Lib.hid (show Eight ((((w.alloc (.cells #[.int .u64 P, .int .u64 Q, .int .u64 G] 24)).alloc (.cells #[.int .u64 a, .int .u64 b] 38)).alloc (.cells #[.int .u64 r0, .int .u64 r1, .int .u64 s0, .int .u64 s1, .int .u64 c0, .int .u64 c1, .int .u64 z0, .int .u64 z1] 42)).alloc (.cells #[.int .u64 r0, .int .u64 r1, .int .u64 s0, .int .u64 s1, .int .u64 C0, .int .u64 C1, .int .u64 Z0, .int .u64 Z1] 42)) (w.heap.size + 1 + 1 + 1) r0 r1 s0 s1 C0 C1 Z0 Z1 from Eight.at _ r0 r1 s0 s1 C0 C1 Z0 Z1 _ (w.heap.size + 1 + 1 + 1) (by simp))
                    have HBW := Lib.hid (show Below w.heap.size w ((((w.alloc (.cells #[.int .u64 P, .int .u64 Q, .int .u64 G] 24)).alloc (.cells #[.int .u64 a, .int .u64 b] 38)).alloc (.cells #[.int .u64 r0, .int .u64 r1, .int .u64 s0, .int .u64 s1, .int .u64 c0, .int .u64 c1, .int .u64 z0, .int .u64 z1] 42)).alloc (.cells #[.int .u64 r0, .int .u64 r1, .int .u64 s0, .int .u64 s1, .int .u64 C0, .int .u64 C1, .int .u64 Z0, .int .u64 Z1] 42)) from ((((Below.refl _ _).alloc (by simp <;> omega) _).alloc (by simp <;> omega) _).alloc (by simp <;> omega) _).alloc (by simp <;> omega) _)
                    go_enter Try.func5, Try.ntmps5
                    obtain ⟨q0, q1, q2, -⟩ := id F_g.out
                    obtain ⟨q3, q4, q5, q6, -⟩ := id F_s.out
                    obtain ⟨p0, p1, p2_, p3_, p4_, p5_, p6_, p7_, -⟩ := id F_p.out
                    obtain ⟨t0, t1, t2, t3, t4, t5, t6, t7, -⟩ := id F_q.out
                    go_wp2_with fail
                    clear q0 q1 q2 q3 q4 q5 q6 p0 p1 p2_ p3_ p4_ p5_ p6_ p7_ t0 t1 t2 t3 t4 t5 t6 t7
                    refine (alive_yes _).mono ?_
                    rintro e w1 ⟨rfl, hb1⟩
                    replace F_g := Lib.hid (F_g.out.keep hb1)
                    replace F_s := Lib.hid (F_s.out.keep hb1)
                    replace F_p := Lib.hid (F_p.out.keep hb1)
                    replace F_q := Lib.hid (F_q.out.keep hb1)
                    replace HBW := Lib.hid (HBW.out.trans (hb1.mono HBW.out.size))
                    clear hb1
                    obtain ⟨q0, q1, q2, -⟩ := id F_g.out
                    obtain ⟨q3, q4, q5, q6, -⟩ := id F_s.out
                    obtain ⟨p0, p1, p2_, p3_, p4_, p5_, p6_, p7_, -⟩ := id F_p.out
                    obtain ⟨t0, t1, t2, t3, t4, t5, t6, t7, -⟩ := id F_q.out
                    go_wp2_with fail
                    clear q0 q1 q2 q3 q4 q5 q6 p0 p1 p2_ p3_ p4_ p5_ p6_ p7_ t0 t1 t2 t3 t4 t5 t6 t7
                    refine (evalid_gen _ hP hQ hG ha hb HVS.out).mono ?_
                    rintro e w2 ⟨rfl, hb2⟩
                    replace F_g := Lib.hid (F_g.out.keep hb2)
                    replace F_s := Lib.hid (F_s.out.keep hb2)
                    replace F_p := Lib.hid (F_p.out.keep hb2)
                    replace F_q := Lib.hid (F_q.out.keep hb2)
                    replace HBW := Lib.hid (HBW.out.trans (hb2.mono HBW.out.size))
                    clear hb2
                    obtain ⟨q0, q1, q2, -⟩ := id F_g.out
                    obtain ⟨q3, q4, q5, q6, -⟩ := id F_s.out
                    obtain ⟨p0, p1, p2_, p3_, p4_, p5_, p6_, p7_, -⟩ := id F_p.out
                    obtain ⟨t0, t1, t2, t3, t4, t5, t6, t7, -⟩ := id F_q.out
                    go_wp2_with fail
                    clear q0 q1 q2 q3 q4 q5 q6 p0 p1 p2_ p3_ p4_ p5_ p6_ p7_ t0 t1 t2 t3 t4 t5 t6 t7
                    refine (gcheck_any P Q G 0 _ hP hQ hG HV.out).mono ?_
                    rintro e w3 ⟨rfl, hb3⟩
                    replace F_g := Lib.hid (F_g.out.keep hb3)
                    replace F_s := Lib.hid (F_s.out.keep hb3)
                    replace F_p := Lib.hid (F_p.out.keep hb3)
                    replace F_q := Lib.hid (F_q.out.keep hb3)
                    replace HBW := Lib.hid (HBW.out.trans (hb3.mono HBW.out.size))
                    clear hb3
                    obtain ⟨q0, q1, q2, -⟩ := id F_g.out
                    obtain ⟨q3, q4, q5, q6, -⟩ := id F_s.out
                    obtain ⟨p0, p1, p2_, p3_, p4_, p5_, p6_, p7_, -⟩ := id F_p.out
                    obtain ⟨t0, t1, t2, t3, t4, t5, t6, t7, -⟩ := id F_q.out
                    go_wp2_with fail
                    clear q0 q1 q2 q3 q4 q5 q6 p0 p1 p2_ p3_ p4_ p5_ p6_ p7_ t0 t1 t2 t3 t4 t5 t6 t7
                    refine (member_is (r := true) _ hP hQ hG hy (by simp [HM_y.out, HH.out])).mono ?_
                    rintro e w4 ⟨rfl, hb4⟩
                    replace F_g := Lib.hid (F_g.out.keep hb4)
                    replace F_s := Lib.hid (F_s.out.keep hb4)
                    replace F_p := Lib.hid (F_p.out.keep hb4)
                    replace F_q := Lib.hid (F_q.out.keep hb4)
                    replace HBW := Lib.hid (HBW.out.trans (hb4.mono HBW.out.size))
                    clear hb4
                    obtain ⟨q0, q1, q2, -⟩ := id F_g.out
                    obtain ⟨q3, q4, q5, q6, -⟩ := id F_s.out
                    obtain ⟨p0, p1, p2_, p3_, p4_, p5_, p6_, p7_, -⟩ := id F_p.out
                    obtain ⟨t0, t1, t2, t3, t4, t5, t6, t7, -⟩ := id F_q.out
                    go_wp2_with fail
                    clear q0 q1 q2 q3 q4 q5 q6 p0 p1 p2_ p3_ p4_ p5_ p6_ p7_ t0 t1 t2 t3 t4 t5 t6 t7
                    go_loopw [18] (fun c18 wr => ∃ k : Nat, k ≤ 2 ∧ c18 = .int .i64 k ∧ Hid (BsIn w wr P Q G a b r0 r1 s0 s1 c0 c1 z0 z1 r0 r1 s0 s1 C0 C1 Z0 Z1 (1 ≤ k → Mem P Q r0 ∧ Mem P Q s0) (2 ≤ k → Mem P Q r1 ∧ Mem P Q s1))) (fun c18 _ => 2 - (intOf c18).toNat)
                    case atStart => exact ⟨0, by omega, rfl, ⟨F_g.out, F_s.out, F_p.out, F_q.out, HBW.out, fun h => absurd h (by omega), fun h => absurd h (by omega)⟩⟩
                    case round =>
                      clear F_g F_s F_p F_q HBW
                      obtain ⟨k, hk, rfl, HK⟩ := hrel
                      have F_g := Lib.hid HK.out.box
                      have F_s := Lib.hid HK.out.pr
                      have F_p := Lib.hid HK.out.ep
                      have F_q := Lib.hid HK.out.eq
                      have HBW := Lib.hid HK.out.bel
                      obtain rfl | rfl | rfl : k = 0 ∨ k = 1 ∨ k = 2 := by omega
                      case inl =>
                        clear HK
                        rw [show ((0 : Nat) : Int) = 0 from rfl]
                        by_cases hr_ : Mem P Q r0
                        case neg =>
                          have HM_r0 := Lib.hid hr_
                          clear hr_
                          obtain ⟨q0, q1, q2, -⟩ := id F_g.out
                          obtain ⟨q3, q4, q5, q6, -⟩ := id F_s.out
                          obtain ⟨p0, p1, p2_, p3_, p4_, p5_, p6_, p7_, -⟩ := id F_p.out
                          obtain ⟨t0, t1, t2, t3, t4, t5, t6, t7, -⟩ := id F_q.out
                          go_wp2_with fail
                          clear q0 q1 q2 q3 q4 q5 q6 p0 p1 p2_ p3_ p4_ p5_ p6_ p7_ t0 t1 t2 t3 t4 t5 t6 t7
                          replace F_g := Lib.hid F_g.out.drew
                          replace F_s := Lib.hid F_s.out.drew
                          replace F_p := Lib.hid F_p.out.drew
                          replace F_q := Lib.hid F_q.out.drew
                          replace HBW := Lib.hid HBW.out.drew
                          have hS := And.intro F_g.out.s (And.intro F_p.out.s F_q.out.s)
                          refine wp_region_stage 15 (fun w' => SBox w' w.heap.size P Q G ∧ S8 w' (w.heap.size + 1 + 1) r0 r1 s0 s1 c0 c1 z0 z1 ∧ S8 w' (w.heap.size + 1 + 1 + 1) r0 r1 s0 s1 C0 C1 Z0 Z1) (by kernel_rfl) ?_
                          refine wpAnyB_take (i := 0) (some 80) (Op.load 24 (Operand.tmp 7)) 24 (v := ?_) ⟨_, rfl, rfl, rfl, rfl, rfl⟩ (by kernel_rfl) (by kernel_rfl) (by kernel_rfl) [5, 6, 7, 8, 9, 10, 11, 12, 13, 14, 15] (by kernel_rfl) (fun _ _ _ h => h) hS (fun w' hSw => ?_) ?_
                          rotate_left
                          · obtain ⟨⟨s0_, s1_, s2_⟩, ⟨a0_, a1_, a2_, a3_, a4_, a5_, a6_, a7_⟩, ⟨b0_, b1_, b2_, b3_, b4_, b5_, b6_, b7_⟩⟩ := hSw
                            unfold bareOp
                            go_simp
                            try with_reducible rfl
                          simp only [Act.put, List.setIfInBounds_toArray, List.set_cons_zero, List.set_cons_succ]
                          refine wpAnyB_takeP (i := 1) (some 81) (Op.move (Operand.tmp 18)) 3 (v := ?_) ⟨_, rfl, rfl, rfl, rfl, rfl⟩ (by kernel_rfl) (by kernel_rfl) (by kernel_rfl) (by kernel_rfl) (fun _ _ _ h => h) (fun _ => hS) (fun w' => ?_) ?_
                          rotate_left
                          · unfold bareOp
                            go_simp
                            try with_reducible rfl
                          simp only [Act.put, List.setIfInBounds_toArray, List.set_cons_zero, List.set_cons_succ]
                          refine wpAnyB_takeP (i := 2) (some 82) (Op.fieldAddr 42 (Operand.tmp 10) 0) 0 (v := ?_) ⟨_, rfl, rfl, rfl, rfl, rfl⟩ (by kernel_rfl) (by kernel_rfl) (by kernel_rfl) (by kernel_rfl) (fun _ _ _ h => h) (fun _ => hS) (fun w' => ?_) ?_
                          rotate_left
                          · unfold bareOp
                            go_simp
                            try with_reducible rfl
                          simp only [Act.put, List.setIfInBounds_toArray, List.set_cons_zero, List.set_cons_succ]
                          refine wpAnyB_takeP (i := 3) (some 83) (Op.indexAddr 39 (Operand.tmp 82) (Operand.tmp 81)) 0 (v := ?_) ⟨_, rfl, rfl, rfl, rfl, rfl⟩ (by kernel_rfl) (by kernel_rfl) (by kernel_rfl) (by kernel_rfl) (fun _ _ _ h => h) (fun _ => hS) (fun w' => ?_) ?_
                          rotate_left
                          · unfold bareOp
                            go_simp
                            try with_reducible rfl
                          simp only [Act.put, List.setIfInBounds_toArray, List.set_cons_zero, List.set_cons_succ]
                          refine wpAnyB_take (i := 4) (some 84) (Op.load 22 (Operand.tmp 83)) 22 (v := ?_) ⟨_, rfl, rfl, rfl, rfl, rfl⟩ (by kernel_rfl) (by kernel_rfl) (by kernel_rfl) [5, 6, 7, 8, 9, 10, 11, 12, 13, 14, 15] (by kernel_rfl) (fun _ _ _ h => h) hS (fun w' hSw => ?_) ?_
                          rotate_left
                          · obtain ⟨⟨s0_, s1_, s2_⟩, ⟨a0_, a1_, a2_, a3_, a4_, a5_, a6_, a7_⟩, ⟨b0_, b1_, b2_, b3_, b4_, b5_, b6_, b7_⟩⟩ := hSw
                            unfold bareOp
                            go_simp
                            try with_reducible rfl
                          simp only [Act.put, List.setIfInBounds_toArray, List.set_cons_zero, List.set_cons_succ]
                          refine wpAnyB_only (i := 5) (some 85) (Op.call { callee := Callee.value (Operand.func 8), args := #[Operand.tmp 80, Operand.tmp 84], argTypes := #[24, 22] }) 4 ⟨_, rfl, rfl, rfl, rfl, rfl⟩ (by kernel_rfl) (fun K hK => ?_)
                          unfold bareOp
                          go_wp2_with (go_at_call 8; refine (member_is (r := false) _ hP hQ hG hr0 (by simp [HM_r0.out])).mono ?_; rintro e w5 ⟨rfl, hb5⟩)
                          replace F_g := Lib.hid (F_g.out.keep hb5)
                          replace F_s := Lib.hid (F_s.out.keep hb5)
                          replace F_p := Lib.hid (F_p.out.keep hb5)
                          replace F_q := Lib.hid (F_q.out.keep hb5)
                          replace HBW := Lib.hid (HBW.out.trans (hb5.mono HBW.out.size))
                          clear hb5
                          replace hS := And.intro F_g.out.s (And.intro F_p.out.s F_q.out.s)
                          refine hK.out _ _ (fun _ => hS) ?_
                          clear hK K
                          try simp only [Act.put, List.setIfInBounds_toArray, List.set_cons_zero, List.set_cons_succ]
                          refine wpAnyB_takeP (i := 6) (some 86) (Op.unOp UnOp.not 4 (Operand.tmp 85)) 4 (v := ?_) ⟨_, rfl, rfl, rfl, rfl, rfl⟩ (by kernel_rfl) (by kernel_rfl) (by kernel_rfl) (by kernel_rfl) (fun _ _ _ h => h) (fun _ => hS) (fun w' => ?_) ?_
                          rotate_left
                          · unfold bareOp
                            go_simp
                            try with_reducible rfl
                          simp only [Act.put, List.setIfInBounds_toArray, List.set_cons_zero, List.set_cons_succ]
                          refine wpAnyB_takeP (i := 7) (some 87) (Op.move (Operand.tmp 86)) 4 (v := ?_) ⟨_, rfl, rfl, rfl, rfl, rfl⟩ (by kernel_rfl) (by kernel_rfl) (by kernel_rfl) (by kernel_rfl) (fun _ _ _ h => h) (fun _ => hS) (fun w' => ?_) ?_
                          rotate_left
                          · unfold bareOp
                            go_simp
                            try with_reducible rfl
                          simp only [Act.put, List.setIfInBounds_toArray, List.set_cons_zero, List.set_cons_succ]
                          refine wpAnyB_skip (i := 8) (some 88) (Op.load 24 (Operand.tmp 7)) 24 (some (7, false)) ⟨_, rfl, rfl, rfl, rfl, rfl⟩ rfl (by kernel_rfl) (by kernel_rfl) (by kernel_rfl) (by kernel_rfl) (fun _ _ _ h => h) (fun _ => hS) ?_
                          simp only [Act.put, List.setIfInBounds_toArray, List.set_cons_zero, List.set_cons_succ]
                          refine wpAnyB_skip (i := 9) (some 89) (Op.move (Operand.tmp 18)) 3 (some (7, false)) ⟨_, rfl, rfl, rfl, rfl, rfl⟩ rfl (by kernel_rfl) (by kernel_rfl) (by kernel_rfl) (by kernel_rfl) (fun _ _ _ h => h) (fun _ => hS) ?_
                          simp only [Act.put, List.setIfInBounds_toArray, List.set_cons_zero, List.set_cons_succ]
                          refine wpAnyB_skip (i := 10) (some 90) (Op.fieldAddr 42 (Operand.tmp 10) 1) 0 (some (7, false)) ⟨_, rfl, rfl, rfl, rfl, rfl⟩ rfl (by kernel_rfl) (by kernel_rfl) (by kernel_rfl) (by kernel_rfl) (fun _ _ _ h => h) (fun _ => hS) ?_
                          simp only [Act.put, List.setIfInBounds_toArray, List.set_cons_zero, List.set_cons_succ]
                          refine wpAnyB_skip (i := 11) (some 91) (Op.indexAddr 39 (Operand.tmp 90) (Operand.tmp 89)) 0 (some (7, false)) ⟨_, rfl, rfl, rfl, rfl, rfl⟩ rfl (by kernel_rfl) (by kernel_rfl) (by kernel_rfl) (by kernel_rfl) (fun _ _ _ h => h) (fun _ => hS) ?_
                          simp only [Act.put, List.setIfInBounds_toArray, List.set_cons_zero, List.set_cons_succ]
                          refine wpAnyB_skip (i := 12) (some 92) (Op.load 22 (Operand.tmp 91)) 22 (some (7, false)) ⟨_, rfl, rfl, rfl, rfl, rfl⟩ rfl (by kernel_rfl) (by kernel_rfl) (by kernel_rfl) (by kernel_rfl) (fun _ _ _ h => h) (fun _ => hS) ?_
                          simp only [Act.put, List.setIfInBounds_toArray, List.set_cons_zero, List.set_cons_succ]
                          refine wpAnyB_skip (i := 13) (some 93) (Op.call { callee := Callee.value (Operand.func 8), args := #[Operand.tmp 88, Operand.tmp 92], argTypes := #[24, 22] }) 4 (some (7, false)) ⟨_, rfl, rfl, rfl, rfl, rfl⟩ rfl (by kernel_rfl) (by kernel_rfl) (by kernel_rfl) (by kernel_rfl) (fun _ _ _ h => h) (fun _ => hS) ?_
                          simp only [Act.put, List.setIfInBounds_toArray, List.set_cons_zero, List.set_cons_succ]
                          refine wpAnyB_skip (i := 14) (some 94) (Op.unOp UnOp.not 4 (Operand.tmp 93)) 4 (some (7, false)) ⟨_, rfl, rfl, rfl, rfl, rfl⟩ rfl (by kernel_rfl) (by kernel_rfl) (by kernel_rfl) (by kernel_rfl) (fun _ _ _ h => h) (fun _ => hS) ?_
                          simp only [Act.put, List.setIfInBounds_toArray, List.set_cons_zero, List.set_cons_succ]
                          refine wpAnyB_only (i := 15) (some 95) (Op.pick (Operand.tmp 87) (Operand.const (Value.bool true)) (Operand.tmp 94)) 4 ⟨_, rfl, rfl, rfl, rfl, rfl⟩ (by kernel_rfl) (fun K hK => ?_)
                          unfold bareOp
                          go_wp2_with fail
                          refine hK.out _ _ (fun h => absurd (h.symm.trans (by kernel_rfl : _ = true)) (by decide)) ?_
                          clear hK K
                          try simp only [Act.put, List.setIfInBounds_toArray, List.set_cons_zero, List.set_cons_succ]
                          refine wpAnyB_done (by kernel_rfl) ?_ _
                          clear hS
                          obtain ⟨q0, q1, q2, -⟩ := id F_g.out
                          obtain ⟨q3, q4, q5, q6, -⟩ := id F_s.out
                          obtain ⟨p0, p1, p2_, p3_, p4_, p5_, p6_, p7_, -⟩ := id F_p.out
                          obtain ⟨t0, t1, t2, t3, t4, t5, t6, t7, -⟩ := id F_q.out
                          go_wp2_with fail
                          go_ret
                          exact ⟨rfl, HBW.out⟩
                        case pos =>
                          by_cases hs_ : Mem P Q s0
                          case neg =>
                            have HM_r0 := Lib.hid hr_
                            have HM_s0 := Lib.hid hs_
                            clear hr_ hs_
                            obtain ⟨q0, q1, q2, -⟩ := id F_g.out
                            obtain ⟨q3, q4, q5, q6, -⟩ := id F_s.out
                            obtain ⟨p0, p1, p2_, p3_, p4_, p5_, p6_, p7_, -⟩ := id F_p.out
                            obtain ⟨t0, t1, t2, t3, t4, t5, t6, t7, -⟩ := id F_q.out
                            go_wp2_with fail
                            clear q0 q1 q2 q3 q4 q5 q6 p0 p1 p2_ p3_ p4_ p5_ p6_ p7_ t0 t1 t2 t3 t4 t5 t6 t7
                            replace F_g := Lib.hid F_g.out.drew
                            replace F_s := Lib.hid F_s.out.drew
                            replace F_p := Lib.hid F_p.out.drew
                            replace F_q := Lib.hid F_q.out.drew
                            replace HBW := Lib.hid HBW.out.drew
                            have hS := And.intro F_g.out.s (And.intro F_p.out.s F_q.out.s)
                            refine wp_region_stage 15 (fun w' => SBox w' w.heap.size P Q G ∧ S8 w' (w.heap.size + 1 + 1) r0 r1 s0 s1 c0 c1 z0 z1 ∧ S8 w' (w.heap.size + 1 + 1 + 1) r0 r1 s0 s1 C0 C1 Z0 Z1) (by kernel_rfl) ?_
                            refine wpAnyB_take (i := 0) (some 80) (Op.load 24 (Operand.tmp 7)) 24 (v := ?_) ⟨_, rfl, rfl, rfl, rfl, rfl⟩ (by kernel_rfl) (by kernel_rfl) (by kernel_rfl) [5, 6, 7, 8, 9, 10, 11, 12, 13, 14, 15] (by kernel_rfl) (fun _ _ _ h => h) hS (fun w' hSw => ?_) ?_
                            rotate_left
                            · obtain ⟨⟨s0_, s1_, s2_⟩, ⟨a0_, a1_, a2_, a3_, a4_, a5_, a6_, a7_⟩, ⟨b0_, b1_, b2_, b3_, b4_, b5_, b6_, b7_⟩⟩ := hSw
                              unfold bareOp
                              go_simp
                              try with_reducible rfl
                            simp only [Act.put, List.setIfInBounds_toArray, List.set_cons_zero, List.set_cons_succ]
                            refine wpAnyB_takeP (i := 1) (some 81) (Op.move (Operand.tmp 18)) 3 (v := ?_) ⟨_, rfl, rfl, rfl, rfl, rfl⟩ (by kernel_rfl) (by kernel_rfl) (by kernel_rfl) (by kernel_rfl) (fun _ _ _ h => h) (fun _ => hS) (fun w' => ?_) ?_
                            rotate_left
                            · unfold bareOp
                              go_simp
                              try with_reducible rfl
                            simp only [Act.put, List.setIfInBounds_toArray, List.set_cons_zero, List.set_cons_succ]
                            refine wpAnyB_takeP (i := 2) (some 82) (Op.fieldAddr 42 (Operand.tmp 10) 0) 0 (v := ?_) ⟨_, rfl, rfl, rfl, rfl, rfl⟩ (by kernel_rfl) (by kernel_rfl) (by kernel_rfl) (by kernel_rfl) (fun _ _ _ h => h) (fun _ => hS) (fun w' => ?_) ?_
                            rotate_left
                            · unfold bareOp
                              go_simp
                              try with_reducible rfl
                            simp only [Act.put, List.setIfInBounds_toArray, List.set_cons_zero, List.set_cons_succ]
                            refine wpAnyB_takeP (i := 3) (some 83) (Op.indexAddr 39 (Operand.tmp 82) (Operand.tmp 81)) 0 (v := ?_) ⟨_, rfl, rfl, rfl, rfl, rfl⟩ (by kernel_rfl) (by kernel_rfl) (by kernel_rfl) (by kernel_rfl) (fun _ _ _ h => h) (fun _ => hS) (fun w' => ?_) ?_
                            rotate_left
                            · unfold bareOp
                              go_simp
                              try with_reducible rfl
                            simp only [Act.put, List.setIfInBounds_toArray, List.set_cons_zero, List.set_cons_succ]
                            refine wpAnyB_take (i := 4) (some 84) (Op.load 22 (Operand.tmp 83)) 22 (v := ?_) ⟨_, rfl, rfl, rfl, rfl, rfl⟩ (by kernel_rfl) (by kernel_rfl) (by kernel_rfl) [5, 6, 7, 8, 9, 10, 11, 12, 13, 14, 15] (by kernel_rfl) (fun _ _ _ h => h) hS (fun w' hSw => ?_) ?_
                            rotate_left
                            · obtain ⟨⟨s0_, s1_, s2_⟩, ⟨a0_, a1_, a2_, a3_, a4_, a5_, a6_, a7_⟩, ⟨b0_, b1_, b2_, b3_, b4_, b5_, b6_, b7_⟩⟩ := hSw
                              unfold bareOp
                              go_simp
                              try with_reducible rfl
                            simp only [Act.put, List.setIfInBounds_toArray, List.set_cons_zero, List.set_cons_succ]
                            refine wpAnyB_only (i := 5) (some 85) (Op.call { callee := Callee.value (Operand.func 8), args := #[Operand.tmp 80, Operand.tmp 84], argTypes := #[24, 22] }) 4 ⟨_, rfl, rfl, rfl, rfl, rfl⟩ (by kernel_rfl) (fun K hK => ?_)
                            unfold bareOp
                            go_wp2_with (go_at_call 8; refine (member_is (r := true) _ hP hQ hG hr0 (by simp [HM_r0.out, HH.out])).mono ?_; rintro e w5 ⟨rfl, hb5⟩)
                            replace F_g := Lib.hid (F_g.out.keep hb5)
                            replace F_s := Lib.hid (F_s.out.keep hb5)
                            replace F_p := Lib.hid (F_p.out.keep hb5)
                            replace F_q := Lib.hid (F_q.out.keep hb5)
                            replace HBW := Lib.hid (HBW.out.trans (hb5.mono HBW.out.size))
                            clear hb5
                            replace hS := And.intro F_g.out.s (And.intro F_p.out.s F_q.out.s)
                            refine hK.out _ _ (fun _ => hS) ?_
                            clear hK K
                            try simp only [Act.put, List.setIfInBounds_toArray, List.set_cons_zero, List.set_cons_succ]
                            refine wpAnyB_takeP (i := 6) (some 86) (Op.unOp UnOp.not 4 (Operand.tmp 85)) 4 (v := ?_) ⟨_, rfl, rfl, rfl, rfl, rfl⟩ (by kernel_rfl) (by kernel_rfl) (by kernel_rfl) (by kernel_rfl) (fun _ _ _ h => h) (fun _ => hS) (fun w' => ?_) ?_
                            rotate_left
                            · unfold bareOp
                              go_simp
                              try with_reducible rfl
                            simp only [Act.put, List.setIfInBounds_toArray, List.set_cons_zero, List.set_cons_succ]
                            refine wpAnyB_takeP (i := 7) (some 87) (Op.move (Operand.tmp 86)) 4 (v := ?_) ⟨_, rfl, rfl, rfl, rfl, rfl⟩ (by kernel_rfl) (by kernel_rfl) (by kernel_rfl) (by kernel_rfl) (fun _ _ _ h => h) (fun _ => hS) (fun w' => ?_) ?_
                            rotate_left
                            · unfold bareOp
                              go_simp
                              try with_reducible rfl
                            simp only [Act.put, List.setIfInBounds_toArray, List.set_cons_zero, List.set_cons_succ]
                            refine wpAnyB_takeG (i := 8) (some 88) (Op.load 24 (Operand.tmp 7)) 24 (some (7, false)) (v := ?_) ⟨_, rfl, rfl, rfl, rfl, rfl⟩ rfl (by kernel_rfl) (by kernel_rfl) (by kernel_rfl) [13, 14, 15] (by kernel_rfl) (fun _ _ _ h => h) hS (fun w' hSw => ?_) ?_
                            rotate_left
                            · obtain ⟨⟨s0_, s1_, s2_⟩, ⟨a0_, a1_, a2_, a3_, a4_, a5_, a6_, a7_⟩, ⟨b0_, b1_, b2_, b3_, b4_, b5_, b6_, b7_⟩⟩ := hSw
                              unfold bareOp
                              go_simp
                              try with_reducible rfl
                            simp only [Act.put, List.setIfInBounds_toArray, List.set_cons_zero, List.set_cons_succ]
                            refine wpAnyB_takePG (i := 9) (some 89) (Op.move (Operand.tmp 18)) 3 (some (7, false)) (v := ?_) ⟨_, rfl, rfl, rfl, rfl, rfl⟩ rfl (by kernel_rfl) (by kernel_rfl) (by kernel_rfl) (by kernel_rfl) (fun _ _ _ h => h) (fun _ => hS) (fun w' => ?_) ?_
                            rotate_left
                            · unfold bareOp
                              go_simp
                              try with_reducible rfl
                            simp only [Act.put, List.setIfInBounds_toArray, List.set_cons_zero, List.set_cons_succ]
                            refine wpAnyB_takePG (i := 10) (some 90) (Op.fieldAddr 42 (Operand.tmp 10) 1) 0 (some (7, false)) (v := ?_) ⟨_, rfl, rfl, rfl, rfl, rfl⟩ rfl (by kernel_rfl) (by kernel_rfl) (by kernel_rfl) (by kernel_rfl) (fun _ _ _ h => h) (fun _ => hS) (fun w' => ?_) ?_
                            rotate_left
                            · unfold bareOp
                              go_simp
                              try with_reducible rfl
                            simp only [Act.put, List.setIfInBounds_toArray, List.set_cons_zero, List.set_cons_succ]
                            refine wpAnyB_takePG (i := 11) (some 91) (Op.indexAddr 39 (Operand.tmp 90) (Operand.tmp 89)) 0 (some (7, false)) (v := ?_) ⟨_, rfl, rfl, rfl, rfl, rfl⟩ rfl (by kernel_rfl) (by kernel_rfl) (by kernel_rfl) (by kernel_rfl) (fun _ _ _ h => h) (fun _ => hS) (fun w' => ?_) ?_
                            rotate_left
                            · unfold bareOp
                              go_simp
                              try with_reducible rfl
                            simp only [Act.put, List.setIfInBounds_toArray, List.set_cons_zero, List.set_cons_succ]
                            refine wpAnyB_takeG (i := 12) (some 92) (Op.load 22 (Operand.tmp 91)) 22 (some (7, false)) (v := ?_) ⟨_, rfl, rfl, rfl, rfl, rfl⟩ rfl (by kernel_rfl) (by kernel_rfl) (by kernel_rfl) [13, 14, 15] (by kernel_rfl) (fun _ _ _ h => h) hS (fun w' hSw => ?_) ?_
                            rotate_left
                            · obtain ⟨⟨s0_, s1_, s2_⟩, ⟨a0_, a1_, a2_, a3_, a4_, a5_, a6_, a7_⟩, ⟨b0_, b1_, b2_, b3_, b4_, b5_, b6_, b7_⟩⟩ := hSw
                              unfold bareOp
                              go_simp
                              try with_reducible rfl
                            simp only [Act.put, List.setIfInBounds_toArray, List.set_cons_zero, List.set_cons_succ]
                            refine wpAnyB_onlyG (i := 13) (some 93) (Op.call { callee := Callee.value (Operand.func 8), args := #[Operand.tmp 88, Operand.tmp 92], argTypes := #[24, 22] }) 4 (some (7, false)) ⟨_, rfl, rfl, rfl, rfl, rfl⟩ (by kernel_rfl) rfl (fun K hK => ?_)
                            unfold bareOp
                            go_wp2_with (go_at_call 8; refine (member_is (r := false) _ hP hQ hG hs0 (by simp [HM_s0.out])).mono ?_; rintro e w6 ⟨rfl, hb6⟩)
                            replace F_g := Lib.hid (F_g.out.keep hb6)
                            replace F_s := Lib.hid (F_s.out.keep hb6)
                            replace F_p := Lib.hid (F_p.out.keep hb6)
                            replace F_q := Lib.hid (F_q.out.keep hb6)
                            replace HBW := Lib.hid (HBW.out.trans (hb6.mono HBW.out.size))
                            clear hb6
                            replace hS := And.intro F_g.out.s (And.intro F_p.out.s F_q.out.s)
                            refine hK.out _ _ (fun _ => hS) ?_
                            clear hK K
                            try simp only [Act.put, List.setIfInBounds_toArray, List.set_cons_zero, List.set_cons_succ]
                            refine wpAnyB_takePG (i := 14) (some 94) (Op.unOp UnOp.not 4 (Operand.tmp 93)) 4 (some (7, false)) (v := ?_) ⟨_, rfl, rfl, rfl, rfl, rfl⟩ rfl (by kernel_rfl) (by kernel_rfl) (by kernel_rfl) (by kernel_rfl) (fun _ _ _ h => h) (fun _ => hS) (fun w' => ?_) ?_
                            rotate_left
                            · unfold bareOp
                              go_simp
                              try with_reducible rfl
                            simp only [Act.put, List.setIfInBounds_toArray, List.set_cons_zero, List.set_cons_succ]
                            refine wpAnyB_only (i := 15) (some 95) (Op.pick (Operand.tmp 87) (Operand.const (Value.bool true)) (Operand.tmp 94)) 4 ⟨_, rfl, rfl, rfl, rfl, rfl⟩ (by kernel_rfl) (fun K hK => ?_)
                            unfold bareOp
                            go_wp2_with fail
                            refine hK.out _ _ (fun h => absurd (h.symm.trans (by kernel_rfl : _ = true)) (by decide)) ?_
                            clear hK K
                            try simp only [Act.put, List.setIfInBounds_toArray, List.set_cons_zero, List.set_cons_succ]
                            refine wpAnyB_done (by kernel_rfl) ?_ _
                            clear hS
                            obtain ⟨q0, q1, q2, -⟩ := id F_g.out
                            obtain ⟨q3, q4, q5, q6, -⟩ := id F_s.out
                            obtain ⟨p0, p1, p2_, p3_, p4_, p5_, p6_, p7_, -⟩ := id F_p.out
                            obtain ⟨t0, t1, t2, t3, t4, t5, t6, t7, -⟩ := id F_q.out
                            go_wp2_with fail
                            go_ret
                            exact ⟨rfl, HBW.out⟩
                          case pos =>
                            have HM_r0 := Lib.hid hr_
                            have HM_s0 := Lib.hid hs_
                            clear hr_ hs_
                            obtain ⟨q0, q1, q2, -⟩ := id F_g.out
                            obtain ⟨q3, q4, q5, q6, -⟩ := id F_s.out
                            obtain ⟨p0, p1, p2_, p3_, p4_, p5_, p6_, p7_, -⟩ := id F_p.out
                            obtain ⟨t0, t1, t2, t3, t4, t5, t6, t7, -⟩ := id F_q.out
                            go_wp2_with fail
                            clear q0 q1 q2 q3 q4 q5 q6 p0 p1 p2_ p3_ p4_ p5_ p6_ p7_ t0 t1 t2 t3 t4 t5 t6 t7
                            replace F_g := Lib.hid F_g.out.drew
                            replace F_s := Lib.hid F_s.out.drew
                            replace F_p := Lib.hid F_p.out.drew
                            replace F_q := Lib.hid F_q.out.drew
                            replace HBW := Lib.hid HBW.out.drew
                            have hS := And.intro F_g.out.s (And.intro F_p.out.s F_q.out.s)
                            refine wp_region_stage 15 (fun w' => SBox w' w.heap.size P Q G ∧ S8 w' (w.heap.size + 1 + 1) r0 r1 s0 s1 c0 c1 z0 z1 ∧ S8 w' (w.heap.size + 1 + 1 + 1) r0 r1 s0 s1 C0 C1 Z0 Z1) (by kernel_rfl) ?_
                            refine wpAnyB_take (i := 0) (some 80) (Op.load 24 (Operand.tmp 7)) 24 (v := ?_) ⟨_, rfl, rfl, rfl, rfl, rfl⟩ (by kernel_rfl) (by kernel_rfl) (by kernel_rfl) [5, 6, 7, 8, 9, 10, 11, 12, 13, 14, 15] (by kernel_rfl) (fun _ _ _ h => h) hS (fun w' hSw => ?_) ?_
                            rotate_left
                            · obtain ⟨⟨s0_, s1_, s2_⟩, ⟨a0_, a1_, a2_, a3_, a4_, a5_, a6_, a7_⟩, ⟨b0_, b1_, b2_, b3_, b4_, b5_, b6_, b7_⟩⟩ := hSw
                              unfold bareOp
                              go_simp
                              try with_reducible rfl
                            simp only [Act.put, List.setIfInBounds_toArray, List.set_cons_zero, List.set_cons_succ]
                            refine wpAnyB_takeP (i := 1) (some 81) (Op.move (Operand.tmp 18)) 3 (v := ?_) ⟨_, rfl, rfl, rfl, rfl, rfl⟩ (by kernel_rfl) (by kernel_rfl) (by kernel_rfl) (by kernel_rfl) (fun _ _ _ h => h) (fun _ => hS) (fun w' => ?_) ?_
                            rotate_left
                            · unfold bareOp
                              go_simp
                              try with_reducible rfl
                            simp only [Act.put, List.setIfInBounds_toArray, List.set_cons_zero, List.set_cons_succ]
                            refine wpAnyB_takeP (i := 2) (some 82) (Op.fieldAddr 42 (Operand.tmp 10) 0) 0 (v := ?_) ⟨_, rfl, rfl, rfl, rfl, rfl⟩ (by kernel_rfl) (by kernel_rfl) (by kernel_rfl) (by kernel_rfl) (fun _ _ _ h => h) (fun _ => hS) (fun w' => ?_) ?_
                            rotate_left
                            · unfold bareOp
                              go_simp
                              try with_reducible rfl
                            simp only [Act.put, List.setIfInBounds_toArray, List.set_cons_zero, List.set_cons_succ]
                            refine wpAnyB_takeP (i := 3) (some 83) (Op.indexAddr 39 (Operand.tmp 82) (Operand.tmp 81)) 0 (v := ?_) ⟨_, rfl, rfl, rfl, rfl, rfl⟩ (by kernel_rfl) (by kernel_rfl) (by kernel_rfl) (by kernel_rfl) (fun _ _ _ h => h) (fun _ => hS) (fun w' => ?_) ?_
                            rotate_left
                            · unfold bareOp
                              go_simp
                              try with_reducible rfl
                            simp only [Act.put, List.setIfInBounds_toArray, List.set_cons_zero, List.set_cons_succ]
                            refine wpAnyB_take (i := 4) (some 84) (Op.load 22 (Operand.tmp 83)) 22 (v := ?_) ⟨_, rfl, rfl, rfl, rfl, rfl⟩ (by kernel_rfl) (by kernel_rfl) (by kernel_rfl) [5, 6, 7, 8, 9, 10, 11, 12, 13, 14, 15] (by kernel_rfl) (fun _ _ _ h => h) hS (fun w' hSw => ?_) ?_
                            rotate_left
                            · obtain ⟨⟨s0_, s1_, s2_⟩, ⟨a0_, a1_, a2_, a3_, a4_, a5_, a6_, a7_⟩, ⟨b0_, b1_, b2_, b3_, b4_, b5_, b6_, b7_⟩⟩ := hSw
                              unfold bareOp
                              go_simp
                              try with_reducible rfl
                            simp only [Act.put, List.setIfInBounds_toArray, List.set_cons_zero, List.set_cons_succ]
                            refine wpAnyB_only (i := 5) (some 85) (Op.call { callee := Callee.value (Operand.func 8), args := #[Operand.tmp 80, Operand.tmp 84], argTypes := #[24, 22] }) 4 ⟨_, rfl, rfl, rfl, rfl, rfl⟩ (by kernel_rfl) (fun K hK => ?_)
                            unfold bareOp
                            go_wp2_with (go_at_call 8; refine (member_is (r := true) _ hP hQ hG hr0 (by simp [HM_r0.out, HH.out])).mono ?_; rintro e w5 ⟨rfl, hb5⟩)
                            replace F_g := Lib.hid (F_g.out.keep hb5)
                            replace F_s := Lib.hid (F_s.out.keep hb5)
                            replace F_p := Lib.hid (F_p.out.keep hb5)
                            replace F_q := Lib.hid (F_q.out.keep hb5)
                            replace HBW := Lib.hid (HBW.out.trans (hb5.mono HBW.out.size))
                            clear hb5
                            replace hS := And.intro F_g.out.s (And.intro F_p.out.s F_q.out.s)
                            refine hK.out _ _ (fun _ => hS) ?_
                            clear hK K
                            try simp only [Act.put, List.setIfInBounds_toArray, List.set_cons_zero, List.set_cons_succ]
                            refine wpAnyB_takeP (i := 6) (some 86) (Op.unOp UnOp.not 4 (Operand.tmp 85)) 4 (v := ?_) ⟨_, rfl, rfl, rfl, rfl, rfl⟩ (by kernel_rfl) (by kernel_rfl) (by kernel_rfl) (by kernel_rfl) (fun _ _ _ h => h) (fun _ => hS) (fun w' => ?_) ?_
                            rotate_left
                            · unfold bareOp
                              go_simp
                              try with_reducible rfl
                            simp only [Act.put, List.setIfInBounds_toArray, List.set_cons_zero, List.set_cons_succ]
                            refine wpAnyB_takeP (i := 7) (some 87) (Op.move (Operand.tmp 86)) 4 (v := ?_) ⟨_, rfl, rfl, rfl, rfl, rfl⟩ (by kernel_rfl) (by kernel_rfl) (by kernel_rfl) (by kernel_rfl) (fun _ _ _ h => h) (fun _ => hS) (fun w' => ?_) ?_
                            rotate_left
                            · unfold bareOp
                              go_simp
                              try with_reducible rfl
                            simp only [Act.put, List.setIfInBounds_toArray, List.set_cons_zero, List.set_cons_succ]
                            refine wpAnyB_takeG (i := 8) (some 88) (Op.load 24 (Operand.tmp 7)) 24 (some (7, false)) (v := ?_) ⟨_, rfl, rfl, rfl, rfl, rfl⟩ rfl (by kernel_rfl) (by kernel_rfl) (by kernel_rfl) [13, 14, 15] (by kernel_rfl) (fun _ _ _ h => h) hS (fun w' hSw => ?_) ?_
                            rotate_left
                            · obtain ⟨⟨s0_, s1_, s2_⟩, ⟨a0_, a1_, a2_, a3_, a4_, a5_, a6_, a7_⟩, ⟨b0_, b1_, b2_, b3_, b4_, b5_, b6_, b7_⟩⟩ := hSw
                              unfold bareOp
                              go_simp
                              try with_reducible rfl
                            simp only [Act.put, List.setIfInBounds_toArray, List.set_cons_zero, List.set_cons_succ]
                            refine wpAnyB_takePG (i := 9) (some 89) (Op.move (Operand.tmp 18)) 3 (some (7, false)) (v := ?_) ⟨_, rfl, rfl, rfl, rfl, rfl⟩ rfl (by kernel_rfl) (by kernel_rfl) (by kernel_rfl) (by kernel_rfl) (fun _ _ _ h => h) (fun _ => hS) (fun w' => ?_) ?_
                            rotate_left
                            · unfold bareOp
                              go_simp
                              try with_reducible rfl
                            simp only [Act.put, List.setIfInBounds_toArray, List.set_cons_zero, List.set_cons_succ]
                            refine wpAnyB_takePG (i := 10) (some 90) (Op.fieldAddr 42 (Operand.tmp 10) 1) 0 (some (7, false)) (v := ?_) ⟨_, rfl, rfl, rfl, rfl, rfl⟩ rfl (by kernel_rfl) (by kernel_rfl) (by kernel_rfl) (by kernel_rfl) (fun _ _ _ h => h) (fun _ => hS) (fun w' => ?_) ?_
                            rotate_left
                            · unfold bareOp
                              go_simp
                              try with_reducible rfl
                            simp only [Act.put, List.setIfInBounds_toArray, List.set_cons_zero, List.set_cons_succ]
                            refine wpAnyB_takePG (i := 11) (some 91) (Op.indexAddr 39 (Operand.tmp 90) (Operand.tmp 89)) 0 (some (7, false)) (v := ?_) ⟨_, rfl, rfl, rfl, rfl, rfl⟩ rfl (by kernel_rfl) (by kernel_rfl) (by kernel_rfl) (by kernel_rfl) (fun _ _ _ h => h) (fun _ => hS) (fun w' => ?_) ?_
                            rotate_left
                            · unfold bareOp
                              go_simp
                              try with_reducible rfl
                            simp only [Act.put, List.setIfInBounds_toArray, List.set_cons_zero, List.set_cons_succ]
                            refine wpAnyB_takeG (i := 12) (some 92) (Op.load 22 (Operand.tmp 91)) 22 (some (7, false)) (v := ?_) ⟨_, rfl, rfl, rfl, rfl, rfl⟩ rfl (by kernel_rfl) (by kernel_rfl) (by kernel_rfl) [13, 14, 15] (by kernel_rfl) (fun _ _ _ h => h) hS (fun w' hSw => ?_) ?_
                            rotate_left
                            · obtain ⟨⟨s0_, s1_, s2_⟩, ⟨a0_, a1_, a2_, a3_, a4_, a5_, a6_, a7_⟩, ⟨b0_, b1_, b2_, b3_, b4_, b5_, b6_, b7_⟩⟩ := hSw
                              unfold bareOp
                              go_simp
                              try with_reducible rfl
                            simp only [Act.put, List.setIfInBounds_toArray, List.set_cons_zero, List.set_cons_succ]
                            refine wpAnyB_onlyG (i := 13) (some 93) (Op.call { callee := Callee.value (Operand.func 8), args := #[Operand.tmp 88, Operand.tmp 92], argTypes := #[24, 22] }) 4 (some (7, false)) ⟨_, rfl, rfl, rfl, rfl, rfl⟩ (by kernel_rfl) rfl (fun K hK => ?_)
                            unfold bareOp
                            go_wp2_with (go_at_call 8; refine (member_is (r := true) _ hP hQ hG hs0 (by simp [HM_s0.out, HH.out])).mono ?_; rintro e w6 ⟨rfl, hb6⟩)
                            replace F_g := Lib.hid (F_g.out.keep hb6)
                            replace F_s := Lib.hid (F_s.out.keep hb6)
                            replace F_p := Lib.hid (F_p.out.keep hb6)
                            replace F_q := Lib.hid (F_q.out.keep hb6)
                            replace HBW := Lib.hid (HBW.out.trans (hb6.mono HBW.out.size))
                            clear hb6
                            replace hS := And.intro F_g.out.s (And.intro F_p.out.s F_q.out.s)
                            refine hK.out _ _ (fun _ => hS) ?_
                            clear hK K
                            try simp only [Act.put, List.setIfInBounds_toArray, List.set_cons_zero, List.set_cons_succ]
                            refine wpAnyB_takePG (i := 14) (some 94) (Op.unOp UnOp.not 4 (Operand.tmp 93)) 4 (some (7, false)) (v := ?_) ⟨_, rfl, rfl, rfl, rfl, rfl⟩ rfl (by kernel_rfl) (by kernel_rfl) (by kernel_rfl) (by kernel_rfl) (fun _ _ _ h => h) (fun _ => hS) (fun w' => ?_) ?_
                            rotate_left
                            · unfold bareOp
                              go_simp
                              try with_reducible rfl
                            simp only [Act.put, List.setIfInBounds_toArray, List.set_cons_zero, List.set_cons_succ]
                            refine wpAnyB_only (i := 15) (some 95) (Op.pick (Operand.tmp 87) (Operand.const (Value.bool true)) (Operand.tmp 94)) 4 ⟨_, rfl, rfl, rfl, rfl, rfl⟩ (by kernel_rfl) (fun K hK => ?_)
                            unfold bareOp
                            go_wp2_with fail
                            refine hK.out _ _ (fun h => absurd (h.symm.trans (by kernel_rfl : _ = true)) (by decide)) ?_
                            clear hK K
                            try simp only [Act.put, List.setIfInBounds_toArray, List.set_cons_zero, List.set_cons_succ]
                            refine wpAnyB_done (by kernel_rfl) ?_ _
                            clear hS
                            obtain ⟨q0, q1, q2, -⟩ := id F_g.out
                            obtain ⟨q3, q4, q5, q6, -⟩ := id F_s.out
                            obtain ⟨p0, p1, p2_, p3_, p4_, p5_, p6_, p7_, -⟩ := id F_p.out
                            obtain ⟨t0, t1, t2, t3, t4, t5, t6, t7, -⟩ := id F_q.out
                            go_wp2_with fail
                            clear q0 q1 q2 q3 q4 q5 q6 p0 p1 p2_ p3_ p4_ p5_ p6_ p7_ t0 t1 t2 t3 t4 t5 t6 t7
                            go_roundw
                            case rel => exact ⟨1, by omega, by go_num, ⟨F_g.out, F_s.out, F_p.out, F_q.out, HBW.out, fun _ => ⟨HM_r0.out, HM_s0.out⟩, fun h => absurd h (by omega)⟩⟩
                            case measure => simp [intOf]
                      case inr.inl =>
                        have HX0 := Lib.hid (HK.out.x0 (by omega))
                        clear HK
                        rw [show ((1 : Nat) : Int) = 1 from rfl]
                        by_cases hr_ : Mem P Q r1
                        case neg =>
                          have HM_r1 := Lib.hid hr_
                          clear hr_
                          obtain ⟨q0, q1, q2, -⟩ := id F_g.out
                          obtain ⟨q3, q4, q5, q6, -⟩ := id F_s.out
                          obtain ⟨p0, p1, p2_, p3_, p4_, p5_, p6_, p7_, -⟩ := id F_p.out
                          obtain ⟨t0, t1, t2, t3, t4, t5, t6, t7, -⟩ := id F_q.out
                          go_wp2_with fail
                          clear q0 q1 q2 q3 q4 q5 q6 p0 p1 p2_ p3_ p4_ p5_ p6_ p7_ t0 t1 t2 t3 t4 t5 t6 t7
                          replace F_g := Lib.hid F_g.out.drew
                          replace F_s := Lib.hid F_s.out.drew
                          replace F_p := Lib.hid F_p.out.drew
                          replace F_q := Lib.hid F_q.out.drew
                          replace HBW := Lib.hid HBW.out.drew
                          have hS := And.intro F_g.out.s (And.intro F_p.out.s F_q.out.s)
                          refine wp_region_stage 15 (fun w' => SBox w' w.heap.size P Q G ∧ S8 w' (w.heap.size + 1 + 1) r0 r1 s0 s1 c0 c1 z0 z1 ∧ S8 w' (w.heap.size + 1 + 1 + 1) r0 r1 s0 s1 C0 C1 Z0 Z1) (by kernel_rfl) ?_
                          refine wpAnyB_take (i := 0) (some 80) (Op.load 24 (Operand.tmp 7)) 24 (v := ?_) ⟨_, rfl, rfl, rfl, rfl, rfl⟩ (by kernel_rfl) (by kernel_rfl) (by kernel_rfl) [5, 6, 7, 8, 9, 10, 11, 12, 13, 14, 15] (by kernel_rfl) (fun _ _ _ h => h) hS (fun w' hSw => ?_) ?_
                          rotate_left
                          · obtain ⟨⟨s0_, s1_, s2_⟩, ⟨a0_, a1_, a2_, a3_, a4_, a5_, a6_, a7_⟩, ⟨b0_, b1_, b2_, b3_, b4_, b5_, b6_, b7_⟩⟩ := hSw
                            unfold bareOp
                            go_simp
                            try with_reducible rfl
                          simp only [Act.put, List.setIfInBounds_toArray, List.set_cons_zero, List.set_cons_succ]
                          refine wpAnyB_takeP (i := 1) (some 81) (Op.move (Operand.tmp 18)) 3 (v := ?_) ⟨_, rfl, rfl, rfl, rfl, rfl⟩ (by kernel_rfl) (by kernel_rfl) (by kernel_rfl) (by kernel_rfl) (fun _ _ _ h => h) (fun _ => hS) (fun w' => ?_) ?_
                          rotate_left
                          · unfold bareOp
                            go_simp
                            try with_reducible rfl
                          simp only [Act.put, List.setIfInBounds_toArray, List.set_cons_zero, List.set_cons_succ]
                          refine wpAnyB_takeP (i := 2) (some 82) (Op.fieldAddr 42 (Operand.tmp 10) 0) 0 (v := ?_) ⟨_, rfl, rfl, rfl, rfl, rfl⟩ (by kernel_rfl) (by kernel_rfl) (by kernel_rfl) (by kernel_rfl) (fun _ _ _ h => h) (fun _ => hS) (fun w' => ?_) ?_
                          rotate_left
                          · unfold bareOp
                            go_simp
                            try with_reducible rfl
                          simp only [Act.put, List.setIfInBounds_toArray, List.set_cons_zero, List.set_cons_succ]
                          refine wpAnyB_takeP (i := 3) (some 83) (Op.indexAddr 39 (Operand.tmp 82) (Operand.tmp 81)) 0 (v := ?_) ⟨_, rfl, rfl, rfl, rfl, rfl⟩ (by kernel_rfl) (by kernel_rfl) (by kernel_rfl) (by kernel_rfl) (fun _ _ _ h => h) (fun _ => hS) (fun w' => ?_) ?_
                          rotate_left
                          · unfold bareOp
                            go_simp
                            try with_reducible rfl
                          simp only [Act.put, List.setIfInBounds_toArray, List.set_cons_zero, List.set_cons_succ]
                          refine wpAnyB_take (i := 4) (some 84) (Op.load 22 (Operand.tmp 83)) 22 (v := ?_) ⟨_, rfl, rfl, rfl, rfl, rfl⟩ (by kernel_rfl) (by kernel_rfl) (by kernel_rfl) [5, 6, 7, 8, 9, 10, 11, 12, 13, 14, 15] (by kernel_rfl) (fun _ _ _ h => h) hS (fun w' hSw => ?_) ?_
                          rotate_left
                          · obtain ⟨⟨s0_, s1_, s2_⟩, ⟨a0_, a1_, a2_, a3_, a4_, a5_, a6_, a7_⟩, ⟨b0_, b1_, b2_, b3_, b4_, b5_, b6_, b7_⟩⟩ := hSw
                            unfold bareOp
                            go_simp
                            try with_reducible rfl
                          simp only [Act.put, List.setIfInBounds_toArray, List.set_cons_zero, List.set_cons_succ]
                          refine wpAnyB_only (i := 5) (some 85) (Op.call { callee := Callee.value (Operand.func 8), args := #[Operand.tmp 80, Operand.tmp 84], argTypes := #[24, 22] }) 4 ⟨_, rfl, rfl, rfl, rfl, rfl⟩ (by kernel_rfl) (fun K hK => ?_)
                          unfold bareOp
                          go_wp2_with (go_at_call 8; refine (member_is (r := false) _ hP hQ hG hr1 (by simp [HM_r1.out])).mono ?_; rintro e w5 ⟨rfl, hb5⟩)
                          replace F_g := Lib.hid (F_g.out.keep hb5)
                          replace F_s := Lib.hid (F_s.out.keep hb5)
                          replace F_p := Lib.hid (F_p.out.keep hb5)
                          replace F_q := Lib.hid (F_q.out.keep hb5)
                          replace HBW := Lib.hid (HBW.out.trans (hb5.mono HBW.out.size))
                          clear hb5
                          replace hS := And.intro F_g.out.s (And.intro F_p.out.s F_q.out.s)
                          refine hK.out _ _ (fun _ => hS) ?_
                          clear hK K
                          try simp only [Act.put, List.setIfInBounds_toArray, List.set_cons_zero, List.set_cons_succ]
                          refine wpAnyB_takeP (i := 6) (some 86) (Op.unOp UnOp.not 4 (Operand.tmp 85)) 4 (v := ?_) ⟨_, rfl, rfl, rfl, rfl, rfl⟩ (by kernel_rfl) (by kernel_rfl) (by kernel_rfl) (by kernel_rfl) (fun _ _ _ h => h) (fun _ => hS) (fun w' => ?_) ?_
                          rotate_left
                          · unfold bareOp
                            go_simp
                            try with_reducible rfl
                          simp only [Act.put, List.setIfInBounds_toArray, List.set_cons_zero, List.set_cons_succ]
                          refine wpAnyB_takeP (i := 7) (some 87) (Op.move (Operand.tmp 86)) 4 (v := ?_) ⟨_, rfl, rfl, rfl, rfl, rfl⟩ (by kernel_rfl) (by kernel_rfl) (by kernel_rfl) (by kernel_rfl) (fun _ _ _ h => h) (fun _ => hS) (fun w' => ?_) ?_
                          rotate_left
                          · unfold bareOp
                            go_simp
                            try with_reducible rfl
                          simp only [Act.put, List.setIfInBounds_toArray, List.set_cons_zero, List.set_cons_succ]
                          refine wpAnyB_skip (i := 8) (some 88) (Op.load 24 (Operand.tmp 7)) 24 (some (7, false)) ⟨_, rfl, rfl, rfl, rfl, rfl⟩ rfl (by kernel_rfl) (by kernel_rfl) (by kernel_rfl) (by kernel_rfl) (fun _ _ _ h => h) (fun _ => hS) ?_
                          simp only [Act.put, List.setIfInBounds_toArray, List.set_cons_zero, List.set_cons_succ]
                          refine wpAnyB_skip (i := 9) (some 89) (Op.move (Operand.tmp 18)) 3 (some (7, false)) ⟨_, rfl, rfl, rfl, rfl, rfl⟩ rfl (by kernel_rfl) (by kernel_rfl) (by kernel_rfl) (by kernel_rfl) (fun _ _ _ h => h) (fun _ => hS) ?_
                          simp only [Act.put, List.setIfInBounds_toArray, List.set_cons_zero, List.set_cons_succ]
                          refine wpAnyB_skip (i := 10) (some 90) (Op.fieldAddr 42 (Operand.tmp 10) 1) 0 (some (7, false)) ⟨_, rfl, rfl, rfl, rfl, rfl⟩ rfl (by kernel_rfl) (by kernel_rfl) (by kernel_rfl) (by kernel_rfl) (fun _ _ _ h => h) (fun _ => hS) ?_
                          simp only [Act.put, List.setIfInBounds_toArray, List.set_cons_zero, List.set_cons_succ]
                          refine wpAnyB_skip (i := 11) (some 91) (Op.indexAddr 39 (Operand.tmp 90) (Operand.tmp 89)) 0 (some (7, false)) ⟨_, rfl, rfl, rfl, rfl, rfl⟩ rfl (by kernel_rfl) (by kernel_rfl) (by kernel_rfl) (by kernel_rfl) (fun _ _ _ h => h) (fun _ => hS) ?_
                          simp only [Act.put, List.setIfInBounds_toArray, List.set_cons_zero, List.set_cons_succ]
                          refine wpAnyB_skip (i := 12) (some 92) (Op.load 22 (Operand.tmp 91)) 22 (some (7, false)) ⟨_, rfl, rfl, rfl, rfl, rfl⟩ rfl (by kernel_rfl) (by kernel_rfl) (by kernel_rfl) (by kernel_rfl) (fun _ _ _ h => h) (fun _ => hS) ?_
                          simp only [Act.put, List.setIfInBounds_toArray, List.set_cons_zero, List.set_cons_succ]
                          refine wpAnyB_skip (i := 13) (some 93) (Op.call { callee := Callee.value (Operand.func 8), args := #[Operand.tmp 88, Operand.tmp 92], argTypes := #[24, 22] }) 4 (some (7, false)) ⟨_, rfl, rfl, rfl, rfl, rfl⟩ rfl (by kernel_rfl) (by kernel_rfl) (by kernel_rfl) (by kernel_rfl) (fun _ _ _ h => h) (fun _ => hS) ?_
                          simp only [Act.put, List.setIfInBounds_toArray, List.set_cons_zero, List.set_cons_succ]
                          refine wpAnyB_skip (i := 14) (some 94) (Op.unOp UnOp.not 4 (Operand.tmp 93)) 4 (some (7, false)) ⟨_, rfl, rfl, rfl, rfl, rfl⟩ rfl (by kernel_rfl) (by kernel_rfl) (by kernel_rfl) (by kernel_rfl) (fun _ _ _ h => h) (fun _ => hS) ?_
                          simp only [Act.put, List.setIfInBounds_toArray, List.set_cons_zero, List.set_cons_succ]
                          refine wpAnyB_only (i := 15) (some 95) (Op.pick (Operand.tmp 87) (Operand.const (Value.bool true)) (Operand.tmp 94)) 4 ⟨_, rfl, rfl, rfl, rfl, rfl⟩ (by kernel_rfl) (fun K hK => ?_)
                          unfold bareOp
                          go_wp2_with fail
                          refine hK.out _ _ (fun h => absurd (h.symm.trans (by kernel_rfl : _ = true)) (by decide)) ?_
                          clear hK K
                          try simp only [Act.put, List.setIfInBounds_toArray, List.set_cons_zero, List.set_cons_succ]
                          refine wpAnyB_done (by kernel_rfl) ?_ _
                          clear hS
                          obtain ⟨q0, q1, q2, -⟩ := id F_g.out
                          obtain ⟨q3, q4, q5, q6, -⟩ := id F_s.out
                          obtain ⟨p0, p1, p2_, p3_, p4_, p5_, p6_, p7_, -⟩ := id F_p.out
                          obtain ⟨t0, t1, t2, t3, t4, t5, t6, t7, -⟩ := id F_q.out
                          go_wp2_with fail
                          go_ret
                          exact ⟨rfl, HBW.out⟩
                        case pos =>
                          by_cases hs_ : Mem P Q s1
                          case neg =>
                            have HM_r1 := Lib.hid hr_
                            have HM_s1 := Lib.hid hs_
                            clear hr_ hs_
                            obtain ⟨q0, q1, q2, -⟩ := id F_g.out
                            obtain ⟨q3, q4, q5, q6, -⟩ := id F_s.out
                            obtain ⟨p0, p1, p2_, p3_, p4_, p5_, p6_, p7_, -⟩ := id F_p.out
                            obtain ⟨t0, t1, t2, t3, t4, t5, t6, t7, -⟩ := id F_q.out
                            go_wp2_with fail
                            clear q0 q1 q2 q3 q4 q5 q6 p0 p1 p2_ p3_ p4_ p5_ p6_ p7_ t0 t1 t2 t3 t4 t5 t6 t7
                            replace F_g := Lib.hid F_g.out.drew
                            replace F_s := Lib.hid F_s.out.drew
                            replace F_p := Lib.hid F_p.out.drew
                            replace F_q := Lib.hid F_q.out.drew
                            replace HBW := Lib.hid HBW.out.drew
                            have hS := And.intro F_g.out.s (And.intro F_p.out.s F_q.out.s)
                            refine wp_region_stage 15 (fun w' => SBox w' w.heap.size P Q G ∧ S8 w' (w.heap.size + 1 + 1) r0 r1 s0 s1 c0 c1 z0 z1 ∧ S8 w' (w.heap.size + 1 + 1 + 1) r0 r1 s0 s1 C0 C1 Z0 Z1) (by kernel_rfl) ?_
                            refine wpAnyB_take (i := 0) (some 80) (Op.load 24 (Operand.tmp 7)) 24 (v := ?_) ⟨_, rfl, rfl, rfl, rfl, rfl⟩ (by kernel_rfl) (by kernel_rfl) (by kernel_rfl) [5, 6, 7, 8, 9, 10, 11, 12, 13, 14, 15] (by kernel_rfl) (fun _ _ _ h => h) hS (fun w' hSw => ?_) ?_
                            rotate_left
                            · obtain ⟨⟨s0_, s1_, s2_⟩, ⟨a0_, a1_, a2_, a3_, a4_, a5_, a6_, a7_⟩, ⟨b0_, b1_, b2_, b3_, b4_, b5_, b6_, b7_⟩⟩ := hSw
                              unfold bareOp
                              go_simp
                              try with_reducible rfl
                            simp only [Act.put, List.setIfInBounds_toArray, List.set_cons_zero, List.set_cons_succ]
                            refine wpAnyB_takeP (i := 1) (some 81) (Op.move (Operand.tmp 18)) 3 (v := ?_) ⟨_, rfl, rfl, rfl, rfl, rfl⟩ (by kernel_rfl) (by kernel_rfl) (by kernel_rfl) (by kernel_rfl) (fun _ _ _ h => h) (fun _ => hS) (fun w' => ?_) ?_
                            rotate_left
                            · unfold bareOp
                              go_simp
                              try with_reducible rfl
                            simp only [Act.put, List.setIfInBounds_toArray, List.set_cons_zero, List.set_cons_succ]
                            refine wpAnyB_takeP (i := 2) (some 82) (Op.fieldAddr 42 (Operand.tmp 10) 0) 0 (v := ?_) ⟨_, rfl, rfl, rfl, rfl, rfl⟩ (by kernel_rfl) (by kernel_rfl) (by kernel_rfl) (by kernel_rfl) (fun _ _ _ h => h) (fun _ => hS) (fun w' => ?_) ?_
                            rotate_left
                            · unfold bareOp
                              go_simp
                              try with_reducible rfl
                            simp only [Act.put, List.setIfInBounds_toArray, List.set_cons_zero, List.set_cons_succ]
                            refine wpAnyB_takeP (i := 3) (some 83) (Op.indexAddr 39 (Operand.tmp 82) (Operand.tmp 81)) 0 (v := ?_) ⟨_, rfl, rfl, rfl, rfl, rfl⟩ (by kernel_rfl) (by kernel_rfl) (by kernel_rfl) (by kernel_rfl) (fun _ _ _ h => h) (fun _ => hS) (fun w' => ?_) ?_
                            rotate_left
                            · unfold bareOp
                              go_simp
                              try with_reducible rfl
                            simp only [Act.put, List.setIfInBounds_toArray, List.set_cons_zero, List.set_cons_succ]
                            refine wpAnyB_take (i := 4) (some 84) (Op.load 22 (Operand.tmp 83)) 22 (v := ?_) ⟨_, rfl, rfl, rfl, rfl, rfl⟩ (by kernel_rfl) (by kernel_rfl) (by kernel_rfl) [5, 6, 7, 8, 9, 10, 11, 12, 13, 14, 15] (by kernel_rfl) (fun _ _ _ h => h) hS (fun w' hSw => ?_) ?_
                            rotate_left
                            · obtain ⟨⟨s0_, s1_, s2_⟩, ⟨a0_, a1_, a2_, a3_, a4_, a5_, a6_, a7_⟩, ⟨b0_, b1_, b2_, b3_, b4_, b5_, b6_, b7_⟩⟩ := hSw
                              unfold bareOp
                              go_simp
                              try with_reducible rfl
                            simp only [Act.put, List.setIfInBounds_toArray, List.set_cons_zero, List.set_cons_succ]
                            refine wpAnyB_only (i := 5) (some 85) (Op.call { callee := Callee.value (Operand.func 8), args := #[Operand.tmp 80, Operand.tmp 84], argTypes := #[24, 22] }) 4 ⟨_, rfl, rfl, rfl, rfl, rfl⟩ (by kernel_rfl) (fun K hK => ?_)
                            unfold bareOp
                            go_wp2_with (go_at_call 8; refine (member_is (r := true) _ hP hQ hG hr1 (by simp [HM_r1.out, HH.out])).mono ?_; rintro e w5 ⟨rfl, hb5⟩)
                            replace F_g := Lib.hid (F_g.out.keep hb5)
                            replace F_s := Lib.hid (F_s.out.keep hb5)
                            replace F_p := Lib.hid (F_p.out.keep hb5)
                            replace F_q := Lib.hid (F_q.out.keep hb5)
                            replace HBW := Lib.hid (HBW.out.trans (hb5.mono HBW.out.size))
                            clear hb5
                            replace hS := And.intro F_g.out.s (And.intro F_p.out.s F_q.out.s)
                            refine hK.out _ _ (fun _ => hS) ?_
                            clear hK K
                            try simp only [Act.put, List.setIfInBounds_toArray, List.set_cons_zero, List.set_cons_succ]
                            refine wpAnyB_takeP (i := 6) (some 86) (Op.unOp UnOp.not 4 (Operand.tmp 85)) 4 (v := ?_) ⟨_, rfl, rfl, rfl, rfl, rfl⟩ (by kernel_rfl) (by kernel_rfl) (by kernel_rfl) (by kernel_rfl) (fun _ _ _ h => h) (fun _ => hS) (fun w' => ?_) ?_
                            rotate_left
                            · unfold bareOp
                              go_simp
                              try with_reducible rfl
                            simp only [Act.put, List.setIfInBounds_toArray, List.set_cons_zero, List.set_cons_succ]
                            refine wpAnyB_takeP (i := 7) (some 87) (Op.move (Operand.tmp 86)) 4 (v := ?_) ⟨_, rfl, rfl, rfl, rfl, rfl⟩ (by kernel_rfl) (by kernel_rfl) (by kernel_rfl) (by kernel_rfl) (fun _ _ _ h => h) (fun _ => hS) (fun w' => ?_) ?_
                            rotate_left
                            · unfold bareOp
                              go_simp
                              try with_reducible rfl
                            simp only [Act.put, List.setIfInBounds_toArray, List.set_cons_zero, List.set_cons_succ]
                            refine wpAnyB_takeG (i := 8) (some 88) (Op.load 24 (Operand.tmp 7)) 24 (some (7, false)) (v := ?_) ⟨_, rfl, rfl, rfl, rfl, rfl⟩ rfl (by kernel_rfl) (by kernel_rfl) (by kernel_rfl) [13, 14, 15] (by kernel_rfl) (fun _ _ _ h => h) hS (fun w' hSw => ?_) ?_
                            rotate_left
                            · obtain ⟨⟨s0_, s1_, s2_⟩, ⟨a0_, a1_, a2_, a3_, a4_, a5_, a6_, a7_⟩, ⟨b0_, b1_, b2_, b3_, b4_, b5_, b6_, b7_⟩⟩ := hSw
                              unfold bareOp
                              go_simp
                              try with_reducible rfl
                            simp only [Act.put, List.setIfInBounds_toArray, List.set_cons_zero, List.set_cons_succ]
                            refine wpAnyB_takePG (i := 9) (some 89) (Op.move (Operand.tmp 18)) 3 (some (7, false)) (v := ?_) ⟨_, rfl, rfl, rfl, rfl, rfl⟩ rfl (by kernel_rfl) (by kernel_rfl) (by kernel_rfl) (by kernel_rfl) (fun _ _ _ h => h) (fun _ => hS) (fun w' => ?_) ?_
                            rotate_left
                            · unfold bareOp
                              go_simp
                              try with_reducible rfl
                            simp only [Act.put, List.setIfInBounds_toArray, List.set_cons_zero, List.set_cons_succ]
                            refine wpAnyB_takePG (i := 10) (some 90) (Op.fieldAddr 42 (Operand.tmp 10) 1) 0 (some (7, false)) (v := ?_) ⟨_, rfl, rfl, rfl, rfl, rfl⟩ rfl (by kernel_rfl) (by kernel_rfl) (by kernel_rfl) (by kernel_rfl) (fun _ _ _ h => h) (fun _ => hS) (fun w' => ?_) ?_
                            rotate_left
                            · unfold bareOp
                              go_simp
                              try with_reducible rfl
                            simp only [Act.put, List.setIfInBounds_toArray, List.set_cons_zero, List.set_cons_succ]
                            refine wpAnyB_takePG (i := 11) (some 91) (Op.indexAddr 39 (Operand.tmp 90) (Operand.tmp 89)) 0 (some (7, false)) (v := ?_) ⟨_, rfl, rfl, rfl, rfl, rfl⟩ rfl (by kernel_rfl) (by kernel_rfl) (by kernel_rfl) (by kernel_rfl) (fun _ _ _ h => h) (fun _ => hS) (fun w' => ?_) ?_
                            rotate_left
                            · unfold bareOp
                              go_simp
                              try with_reducible rfl
                            simp only [Act.put, List.setIfInBounds_toArray, List.set_cons_zero, List.set_cons_succ]
                            refine wpAnyB_takeG (i := 12) (some 92) (Op.load 22 (Operand.tmp 91)) 22 (some (7, false)) (v := ?_) ⟨_, rfl, rfl, rfl, rfl, rfl⟩ rfl (by kernel_rfl) (by kernel_rfl) (by kernel_rfl) [13, 14, 15] (by kernel_rfl) (fun _ _ _ h => h) hS (fun w' hSw => ?_) ?_
                            rotate_left
                            · obtain ⟨⟨s0_, s1_, s2_⟩, ⟨a0_, a1_, a2_, a3_, a4_, a5_, a6_, a7_⟩, ⟨b0_, b1_, b2_, b3_, b4_, b5_, b6_, b7_⟩⟩ := hSw
                              unfold bareOp
                              go_simp
                              try with_reducible rfl
                            simp only [Act.put, List.setIfInBounds_toArray, List.set_cons_zero, List.set_cons_succ]
                            refine wpAnyB_onlyG (i := 13) (some 93) (Op.call { callee := Callee.value (Operand.func 8), args := #[Operand.tmp 88, Operand.tmp 92], argTypes := #[24, 22] }) 4 (some (7, false)) ⟨_, rfl, rfl, rfl, rfl, rfl⟩ (by kernel_rfl) rfl (fun K hK => ?_)
                            unfold bareOp
                            go_wp2_with (go_at_call 8; refine (member_is (r := false) _ hP hQ hG hs1 (by simp [HM_s1.out])).mono ?_; rintro e w6 ⟨rfl, hb6⟩)
                            replace F_g := Lib.hid (F_g.out.keep hb6)
                            replace F_s := Lib.hid (F_s.out.keep hb6)
                            replace F_p := Lib.hid (F_p.out.keep hb6)
                            replace F_q := Lib.hid (F_q.out.keep hb6)
                            replace HBW := Lib.hid (HBW.out.trans (hb6.mono HBW.out.size))
                            clear hb6
                            replace hS := And.intro F_g.out.s (And.intro F_p.out.s F_q.out.s)
                            refine hK.out _ _ (fun _ => hS) ?_
                            clear hK K
                            try simp only [Act.put, List.setIfInBounds_toArray, List.set_cons_zero, List.set_cons_succ]
                            refine wpAnyB_takePG (i := 14) (some 94) (Op.unOp UnOp.not 4 (Operand.tmp 93)) 4 (some (7, false)) (v := ?_) ⟨_, rfl, rfl, rfl, rfl, rfl⟩ rfl (by kernel_rfl) (by kernel_rfl) (by kernel_rfl) (by kernel_rfl) (fun _ _ _ h => h) (fun _ => hS) (fun w' => ?_) ?_
                            rotate_left
                            · unfold bareOp
                              go_simp
                              try with_reducible rfl
                            simp only [Act.put, List.setIfInBounds_toArray, List.set_cons_zero, List.set_cons_succ]
                            refine wpAnyB_only (i := 15) (some 95) (Op.pick (Operand.tmp 87) (Operand.const (Value.bool true)) (Operand.tmp 94)) 4 ⟨_, rfl, rfl, rfl, rfl, rfl⟩ (by kernel_rfl) (fun K hK => ?_)
                            unfold bareOp
                            go_wp2_with fail
                            refine hK.out _ _ (fun h => absurd (h.symm.trans (by kernel_rfl : _ = true)) (by decide)) ?_
                            clear hK K
                            try simp only [Act.put, List.setIfInBounds_toArray, List.set_cons_zero, List.set_cons_succ]
                            refine wpAnyB_done (by kernel_rfl) ?_ _
                            clear hS
                            obtain ⟨q0, q1, q2, -⟩ := id F_g.out
                            obtain ⟨q3, q4, q5, q6, -⟩ := id F_s.out
                            obtain ⟨p0, p1, p2_, p3_, p4_, p5_, p6_, p7_, -⟩ := id F_p.out
                            obtain ⟨t0, t1, t2, t3, t4, t5, t6, t7, -⟩ := id F_q.out
                            go_wp2_with fail
                            go_ret
                            exact ⟨rfl, HBW.out⟩
                          case pos =>
                            have HM_r1 := Lib.hid hr_
                            have HM_s1 := Lib.hid hs_
                            clear hr_ hs_
                            obtain ⟨q0, q1, q2, -⟩ := id F_g.out
                            obtain ⟨q3, q4, q5, q6, -⟩ := id F_s.out
                            obtain ⟨p0, p1, p2_, p3_, p4_, p5_, p6_, p7_, -⟩ := id F_p.out
                            obtain ⟨t0, t1, t2, t3, t4, t5, t6, t7, -⟩ := id F_q.out
                            go_wp2_with fail
                            clear q0 q1 q2 q3 q4 q5 q6 p0 p1 p2_ p3_ p4_ p5_ p6_ p7_ t0 t1 t2 t3 t4 t5 t6 t7
                            replace F_g := Lib.hid F_g.out.drew
                            replace F_s := Lib.hid F_s.out.drew
                            replace F_p := Lib.hid F_p.out.drew
                            replace F_q := Lib.hid F_q.out.drew
                            replace HBW := Lib.hid HBW.out.drew
                            have hS := And.intro F_g.out.s (And.intro F_p.out.s F_q.out.s)
                            refine wp_region_stage 15 (fun w' => SBox w' w.heap.size P Q G ∧ S8 w' (w.heap.size + 1 + 1) r0 r1 s0 s1 c0 c1 z0 z1 ∧ S8 w' (w.heap.size + 1 + 1 + 1) r0 r1 s0 s1 C0 C1 Z0 Z1) (by kernel_rfl) ?_
                            refine wpAnyB_take (i := 0) (some 80) (Op.load 24 (Operand.tmp 7)) 24 (v := ?_) ⟨_, rfl, rfl, rfl, rfl, rfl⟩ (by kernel_rfl) (by kernel_rfl) (by kernel_rfl) [5, 6, 7, 8, 9, 10, 11, 12, 13, 14, 15] (by kernel_rfl) (fun _ _ _ h => h) hS (fun w' hSw => ?_) ?_
                            rotate_left
                            · obtain ⟨⟨s0_, s1_, s2_⟩, ⟨a0_, a1_, a2_, a3_, a4_, a5_, a6_, a7_⟩, ⟨b0_, b1_, b2_, b3_, b4_, b5_, b6_, b7_⟩⟩ := hSw
                              unfold bareOp
                              go_simp
                              try with_reducible rfl
                            simp only [Act.put, List.setIfInBounds_toArray, List.set_cons_zero, List.set_cons_succ]
                            refine wpAnyB_takeP (i := 1) (some 81) (Op.move (Operand.tmp 18)) 3 (v := ?_) ⟨_, rfl, rfl, rfl, rfl, rfl⟩ (by kernel_rfl) (by kernel_rfl) (by kernel_rfl) (by kernel_rfl) (fun _ _ _ h => h) (fun _ => hS) (fun w' => ?_) ?_
                            rotate_left
                            · unfold bareOp
                              go_simp
                              try with_reducible rfl
                            simp only [Act.put, List.setIfInBounds_toArray, List.set_cons_zero, List.set_cons_succ]
                            refine wpAnyB_takeP (i := 2) (some 82) (Op.fieldAddr 42 (Operand.tmp 10) 0) 0 (v := ?_) ⟨_, rfl, rfl, rfl, rfl, rfl⟩ (by kernel_rfl) (by kernel_rfl) (by kernel_rfl) (by kernel_rfl) (fun _ _ _ h => h) (fun _ => hS) (fun w' => ?_) ?_
                            rotate_left
                            · unfold bareOp
                              go_simp
                              try with_reducible rfl
                            simp only [Act.put, List.setIfInBounds_toArray, List.set_cons_zero, List.set_cons_succ]
                            refine wpAnyB_takeP (i := 3) (some 83) (Op.indexAddr 39 (Operand.tmp 82) (Operand.tmp 81)) 0 (v := ?_) ⟨_, rfl, rfl, rfl, rfl, rfl⟩ (by kernel_rfl) (by kernel_rfl) (by kernel_rfl) (by kernel_rfl) (fun _ _ _ h => h) (fun _ => hS) (fun w' => ?_) ?_
                            rotate_left
                            · unfold bareOp
                              go_simp
                              try with_reducible rfl
                            simp only [Act.put, List.setIfInBounds_toArray, List.set_cons_zero, List.set_cons_succ]
                            refine wpAnyB_take (i := 4) (some 84) (Op.load 22 (Operand.tmp 83)) 22 (v := ?_) ⟨_, rfl, rfl, rfl, rfl, rfl⟩ (by kernel_rfl) (by kernel_rfl) (by kernel_rfl) [5, 6, 7, 8, 9, 10, 11, 12, 13, 14, 15] (by kernel_rfl) (fun _ _ _ h => h) hS (fun w' hSw => ?_) ?_
                            rotate_left
                            · obtain ⟨⟨s0_, s1_, s2_⟩, ⟨a0_, a1_, a2_, a3_, a4_, a5_, a6_, a7_⟩, ⟨b0_, b1_, b2_, b3_, b4_, b5_, b6_, b7_⟩⟩ := hSw
                              unfold bareOp
                              go_simp
                              try with_reducible rfl
                            simp only [Act.put, List.setIfInBounds_toArray, List.set_cons_zero, List.set_cons_succ]
                            refine wpAnyB_only (i := 5) (some 85) (Op.call { callee := Callee.value (Operand.func 8), args := #[Operand.tmp 80, Operand.tmp 84], argTypes := #[24, 22] }) 4 ⟨_, rfl, rfl, rfl, rfl, rfl⟩ (by kernel_rfl) (fun K hK => ?_)
                            unfold bareOp
                            go_wp2_with (go_at_call 8; refine (member_is (r := true) _ hP hQ hG hr1 (by simp [HM_r1.out, HH.out])).mono ?_; rintro e w5 ⟨rfl, hb5⟩)
                            replace F_g := Lib.hid (F_g.out.keep hb5)
                            replace F_s := Lib.hid (F_s.out.keep hb5)
                            replace F_p := Lib.hid (F_p.out.keep hb5)
                            replace F_q := Lib.hid (F_q.out.keep hb5)
                            replace HBW := Lib.hid (HBW.out.trans (hb5.mono HBW.out.size))
                            clear hb5
                            replace hS := And.intro F_g.out.s (And.intro F_p.out.s F_q.out.s)
                            refine hK.out _ _ (fun _ => hS) ?_
                            clear hK K
                            try simp only [Act.put, List.setIfInBounds_toArray, List.set_cons_zero, List.set_cons_succ]
                            refine wpAnyB_takeP (i := 6) (some 86) (Op.unOp UnOp.not 4 (Operand.tmp 85)) 4 (v := ?_) ⟨_, rfl, rfl, rfl, rfl, rfl⟩ (by kernel_rfl) (by kernel_rfl) (by kernel_rfl) (by kernel_rfl) (fun _ _ _ h => h) (fun _ => hS) (fun w' => ?_) ?_
                            rotate_left
                            · unfold bareOp
                              go_simp
                              try with_reducible rfl
                            simp only [Act.put, List.setIfInBounds_toArray, List.set_cons_zero, List.set_cons_succ]
                            refine wpAnyB_takeP (i := 7) (some 87) (Op.move (Operand.tmp 86)) 4 (v := ?_) ⟨_, rfl, rfl, rfl, rfl, rfl⟩ (by kernel_rfl) (by kernel_rfl) (by kernel_rfl) (by kernel_rfl) (fun _ _ _ h => h) (fun _ => hS) (fun w' => ?_) ?_
                            rotate_left
                            · unfold bareOp
                              go_simp
                              try with_reducible rfl
                            simp only [Act.put, List.setIfInBounds_toArray, List.set_cons_zero, List.set_cons_succ]
                            refine wpAnyB_takeG (i := 8) (some 88) (Op.load 24 (Operand.tmp 7)) 24 (some (7, false)) (v := ?_) ⟨_, rfl, rfl, rfl, rfl, rfl⟩ rfl (by kernel_rfl) (by kernel_rfl) (by kernel_rfl) [13, 14, 15] (by kernel_rfl) (fun _ _ _ h => h) hS (fun w' hSw => ?_) ?_
                            rotate_left
                            · obtain ⟨⟨s0_, s1_, s2_⟩, ⟨a0_, a1_, a2_, a3_, a4_, a5_, a6_, a7_⟩, ⟨b0_, b1_, b2_, b3_, b4_, b5_, b6_, b7_⟩⟩ := hSw
                              unfold bareOp
                              go_simp
                              try with_reducible rfl
                            simp only [Act.put, List.setIfInBounds_toArray, List.set_cons_zero, List.set_cons_succ]
                            refine wpAnyB_takePG (i := 9) (some 89) (Op.move (Operand.tmp 18)) 3 (some (7, false)) (v := ?_) ⟨_, rfl, rfl, rfl, rfl, rfl⟩ rfl (by kernel_rfl) (by kernel_rfl) (by kernel_rfl) (by kernel_rfl) (fun _ _ _ h => h) (fun _ => hS) (fun w' => ?_) ?_
                            rotate_left
                            · unfold bareOp
                              go_simp
                              try with_reducible rfl
                            simp only [Act.put, List.setIfInBounds_toArray, List.set_cons_zero, List.set_cons_succ]
                            refine wpAnyB_takePG (i := 10) (some 90) (Op.fieldAddr 42 (Operand.tmp 10) 1) 0 (some (7, false)) (v := ?_) ⟨_, rfl, rfl, rfl, rfl, rfl⟩ rfl (by kernel_rfl) (by kernel_rfl) (by kernel_rfl) (by kernel_rfl) (fun _ _ _ h => h) (fun _ => hS) (fun w' => ?_) ?_
                            rotate_left
                            · unfold bareOp
                              go_simp
                              try with_reducible rfl
                            simp only [Act.put, List.setIfInBounds_toArray, List.set_cons_zero, List.set_cons_succ]
                            refine wpAnyB_takePG (i := 11) (some 91) (Op.indexAddr 39 (Operand.tmp 90) (Operand.tmp 89)) 0 (some (7, false)) (v := ?_) ⟨_, rfl, rfl, rfl, rfl, rfl⟩ rfl (by kernel_rfl) (by kernel_rfl) (by kernel_rfl) (by kernel_rfl) (fun _ _ _ h => h) (fun _ => hS) (fun w' => ?_) ?_
                            rotate_left
                            · unfold bareOp
                              go_simp
                              try with_reducible rfl
                            simp only [Act.put, List.setIfInBounds_toArray, List.set_cons_zero, List.set_cons_succ]
                            refine wpAnyB_takeG (i := 12) (some 92) (Op.load 22 (Operand.tmp 91)) 22 (some (7, false)) (v := ?_) ⟨_, rfl, rfl, rfl, rfl, rfl⟩ rfl (by kernel_rfl) (by kernel_rfl) (by kernel_rfl) [13, 14, 15] (by kernel_rfl) (fun _ _ _ h => h) hS (fun w' hSw => ?_) ?_
                            rotate_left
                            · obtain ⟨⟨s0_, s1_, s2_⟩, ⟨a0_, a1_, a2_, a3_, a4_, a5_, a6_, a7_⟩, ⟨b0_, b1_, b2_, b3_, b4_, b5_, b6_, b7_⟩⟩ := hSw
                              unfold bareOp
                              go_simp
                              try with_reducible rfl
                            simp only [Act.put, List.setIfInBounds_toArray, List.set_cons_zero, List.set_cons_succ]
                            refine wpAnyB_onlyG (i := 13) (some 93) (Op.call { callee := Callee.value (Operand.func 8), args := #[Operand.tmp 88, Operand.tmp 92], argTypes := #[24, 22] }) 4 (some (7, false)) ⟨_, rfl, rfl, rfl, rfl, rfl⟩ (by kernel_rfl) rfl (fun K hK => ?_)
                            unfold bareOp
                            go_wp2_with (go_at_call 8; refine (member_is (r := true) _ hP hQ hG hs1 (by simp [HM_s1.out, HH.out])).mono ?_; rintro e w6 ⟨rfl, hb6⟩)
                            replace F_g := Lib.hid (F_g.out.keep hb6)
                            replace F_s := Lib.hid (F_s.out.keep hb6)
                            replace F_p := Lib.hid (F_p.out.keep hb6)
                            replace F_q := Lib.hid (F_q.out.keep hb6)
                            replace HBW := Lib.hid (HBW.out.trans (hb6.mono HBW.out.size))
                            clear hb6
                            replace hS := And.intro F_g.out.s (And.intro F_p.out.s F_q.out.s)
                            refine hK.out _ _ (fun _ => hS) ?_
                            clear hK K
                            try simp only [Act.put, List.setIfInBounds_toArray, List.set_cons_zero, List.set_cons_succ]
                            refine wpAnyB_takePG (i := 14) (some 94) (Op.unOp UnOp.not 4 (Operand.tmp 93)) 4 (some (7, false)) (v := ?_) ⟨_, rfl, rfl, rfl, rfl, rfl⟩ rfl (by kernel_rfl) (by kernel_rfl) (by kernel_rfl) (by kernel_rfl) (fun _ _ _ h => h) (fun _ => hS) (fun w' => ?_) ?_
                            rotate_left
                            · unfold bareOp
                              go_simp
                              try with_reducible rfl
                            simp only [Act.put, List.setIfInBounds_toArray, List.set_cons_zero, List.set_cons_succ]
                            refine wpAnyB_only (i := 15) (some 95) (Op.pick (Operand.tmp 87) (Operand.const (Value.bool true)) (Operand.tmp 94)) 4 ⟨_, rfl, rfl, rfl, rfl, rfl⟩ (by kernel_rfl) (fun K hK => ?_)
                            unfold bareOp
                            go_wp2_with fail
                            refine hK.out _ _ (fun h => absurd (h.symm.trans (by kernel_rfl : _ = true)) (by decide)) ?_
                            clear hK K
                            try simp only [Act.put, List.setIfInBounds_toArray, List.set_cons_zero, List.set_cons_succ]
                            refine wpAnyB_done (by kernel_rfl) ?_ _
                            clear hS
                            obtain ⟨q0, q1, q2, -⟩ := id F_g.out
                            obtain ⟨q3, q4, q5, q6, -⟩ := id F_s.out
                            obtain ⟨p0, p1, p2_, p3_, p4_, p5_, p6_, p7_, -⟩ := id F_p.out
                            obtain ⟨t0, t1, t2, t3, t4, t5, t6, t7, -⟩ := id F_q.out
                            go_wp2_with fail
                            clear q0 q1 q2 q3 q4 q5 q6 p0 p1 p2_ p3_ p4_ p5_ p6_ p7_ t0 t1 t2 t3 t4 t5 t6 t7
                            go_roundw
                            case rel => exact ⟨2, by omega, by go_num, ⟨F_g.out, F_s.out, F_p.out, F_q.out, HBW.out, fun _ => HX0.out, fun _ => ⟨HM_r1.out, HM_s1.out⟩⟩⟩
                            case measure => simp [intOf]
                      case inr.inr =>
                        have HX0 := Lib.hid (HK.out.x0 (by omega))
                        have HX1 := Lib.hid (HK.out.x1 (by omega))
                        clear HK
                        rw [show ((2 : Nat) : Int) = 2 from rfl]
                        by_cases he1 : e1 = 0
                        case neg =>
                          have hn1 : (e1 != 0) = true := by simpa using he1
                          clear he1
                          obtain ⟨q0, q1, q2, -⟩ := id F_g.out
                          obtain ⟨q3, q4, q5, q6, -⟩ := id F_s.out
                          obtain ⟨p0, p1, p2_, p3_, p4_, p5_, p6_, p7_, -⟩ := id F_p.out
                          obtain ⟨t0, t1, t2, t3, t4, t5, t6, t7, -⟩ := id F_q.out
                          go_wp2_with fail
                          clear q0 q1 q2 q3 q4 q5 q6 p0 p1 p2_ p3_ p4_ p5_ p6_ p7_ t0 t1 t2 t3 t4 t5 t6 t7
                          refine (bitHolds_any _ hP hQ hG hy ha hb hcc hr0 hr1 hs0 hs1 hc0 hc1 hz0 hz1 HNN.out HPP.out HTT.out HB1.out).mono ?_
                          rintro e w5 ⟨rfl, hb5⟩
                          replace F_g := Lib.hid (F_g.out.keep hb5)
                          replace F_s := Lib.hid (F_s.out.keep hb5)
                          replace F_p := Lib.hid (F_p.out.keep hb5)
                          replace F_q := Lib.hid (F_q.out.keep hb5)
                          replace HBW := Lib.hid (HBW.out.trans (hb5.mono HBW.out.size))
                          clear hb5
                          obtain ⟨q0, q1, q2, -⟩ := id F_g.out
                          obtain ⟨q3, q4, q5, q6, -⟩ := id F_s.out
                          obtain ⟨p0, p1, p2_, p3_, p4_, p5_, p6_, p7_, -⟩ := id F_p.out
                          obtain ⟨t0, t1, t2, t3, t4, t5, t6, t7, -⟩ := id F_q.out
                          go_wp2_with fail
                          clear q0 q1 q2 q3 q4 q5 q6 p0 p1 p2_ p3_ p4_ p5_ p6_ p7_ t0 t1 t2 t3 t4 t5 t6 t7
                          refine (bitHolds_any _ hP hQ hG hy ha hb hdd hr0 hr1 hs0 hs1 hC0 hC1 hZ0 hZ1 HNN.out HPP.out HTT.out HB2.out).mono ?_
                          rintro e w6 ⟨rfl, hb6⟩
                          replace F_g := Lib.hid (F_g.out.keep hb6)
                          replace F_s := Lib.hid (F_s.out.keep hb6)
                          replace F_p := Lib.hid (F_p.out.keep hb6)
                          replace F_q := Lib.hid (F_q.out.keep hb6)
                          replace HBW := Lib.hid (HBW.out.trans (hb6.mono HBW.out.size))
                          clear hb6
                          obtain ⟨q0, q1, q2, -⟩ := id F_g.out
                          obtain ⟨q3, q4, q5, q6, -⟩ := id F_s.out
                          obtain ⟨p0, p1, p2_, p3_, p4_, p5_, p6_, p7_, -⟩ := id F_p.out
                          obtain ⟨t0, t1, t2, t3, t4, t5, t6, t7, -⟩ := id F_q.out
                          go_wp2_with fail
                          go_ret
                          exact ⟨rfl, HBW.out⟩
                        case pos =>
                          subst he1
                          by_cases he2 : e2 = 0
                          case neg =>
                            have hn1 : (e2 != 0) = true := by simpa using he2
                            clear he2
                            obtain ⟨q0, q1, q2, -⟩ := id F_g.out
                            obtain ⟨q3, q4, q5, q6, -⟩ := id F_s.out
                            obtain ⟨p0, p1, p2_, p3_, p4_, p5_, p6_, p7_, -⟩ := id F_p.out
                            obtain ⟨t0, t1, t2, t3, t4, t5, t6, t7, -⟩ := id F_q.out
                            go_wp2_with fail
                            clear q0 q1 q2 q3 q4 q5 q6 p0 p1 p2_ p3_ p4_ p5_ p6_ p7_ t0 t1 t2 t3 t4 t5 t6 t7
                            refine (bitHolds_any _ hP hQ hG hy ha hb hcc hr0 hr1 hs0 hs1 hc0 hc1 hz0 hz1 HNN.out HPP.out HTT.out HB1.out).mono ?_
                            rintro e w5 ⟨rfl, hb5⟩
                            replace F_g := Lib.hid (F_g.out.keep hb5)
                            replace F_s := Lib.hid (F_s.out.keep hb5)
                            replace F_p := Lib.hid (F_p.out.keep hb5)
                            replace F_q := Lib.hid (F_q.out.keep hb5)
                            replace HBW := Lib.hid (HBW.out.trans (hb5.mono HBW.out.size))
                            clear hb5
                            obtain ⟨q0, q1, q2, -⟩ := id F_g.out
                            obtain ⟨q3, q4, q5, q6, -⟩ := id F_s.out
                            obtain ⟨p0, p1, p2_, p3_, p4_, p5_, p6_, p7_, -⟩ := id F_p.out
                            obtain ⟨t0, t1, t2, t3, t4, t5, t6, t7, -⟩ := id F_q.out
                            go_wp2_with fail
                            clear q0 q1 q2 q3 q4 q5 q6 p0 p1 p2_ p3_ p4_ p5_ p6_ p7_ t0 t1 t2 t3 t4 t5 t6 t7
                            refine (bitHolds_any _ hP hQ hG hy ha hb hdd hr0 hr1 hs0 hs1 hC0 hC1 hZ0 hZ1 HNN.out HPP.out HTT.out HB2.out).mono ?_
                            rintro e w6 ⟨rfl, hb6⟩
                            replace F_g := Lib.hid (F_g.out.keep hb6)
                            replace F_s := Lib.hid (F_s.out.keep hb6)
                            replace F_p := Lib.hid (F_p.out.keep hb6)
                            replace F_q := Lib.hid (F_q.out.keep hb6)
                            replace HBW := Lib.hid (HBW.out.trans (hb6.mono HBW.out.size))
                            clear hb6
                            obtain ⟨q0, q1, q2, -⟩ := id F_g.out
                            obtain ⟨q3, q4, q5, q6, -⟩ := id F_s.out
                            obtain ⟨p0, p1, p2_, p3_, p4_, p5_, p6_, p7_, -⟩ := id F_p.out
                            obtain ⟨t0, t1, t2, t3, t4, t5, t6, t7, -⟩ := id F_q.out
                            go_wp2_with fail
                            go_ret
                            exact ⟨rfl, HBW.out⟩
                          case pos =>
                            subst he2
                            by_cases hv1_ : v1 = true
                            case neg =>
                              have hb_ : v1 = false := by simpa using hv1_
                              subst hb_
                              clear hv1_
                              obtain ⟨q0, q1, q2, -⟩ := id F_g.out
                              obtain ⟨q3, q4, q5, q6, -⟩ := id F_s.out
                              obtain ⟨p0, p1, p2_, p3_, p4_, p5_, p6_, p7_, -⟩ := id F_p.out
                              obtain ⟨t0, t1, t2, t3, t4, t5, t6, t7, -⟩ := id F_q.out
                              go_wp2_with fail
                              clear q0 q1 q2 q3 q4 q5 q6 p0 p1 p2_ p3_ p4_ p5_ p6_ p7_ t0 t1 t2 t3 t4 t5 t6 t7
                              refine (bitHolds_any _ hP hQ hG hy ha hb hcc hr0 hr1 hs0 hs1 hc0 hc1 hz0 hz1 HNN.out HPP.out HTT.out HB1.out).mono ?_
                              rintro e w5 ⟨rfl, hb5⟩
                              replace F_g := Lib.hid (F_g.out.keep hb5)
                              replace F_s := Lib.hid (F_s.out.keep hb5)
                              replace F_p := Lib.hid (F_p.out.keep hb5)
                              replace F_q := Lib.hid (F_q.out.keep hb5)
                              replace HBW := Lib.hid (HBW.out.trans (hb5.mono HBW.out.size))
                              clear hb5
                              obtain ⟨q0, q1, q2, -⟩ := id F_g.out
                              obtain ⟨q3, q4, q5, q6, -⟩ := id F_s.out
                              obtain ⟨p0, p1, p2_, p3_, p4_, p5_, p6_, p7_, -⟩ := id F_p.out
                              obtain ⟨t0, t1, t2, t3, t4, t5, t6, t7, -⟩ := id F_q.out
                              go_wp2_with fail
                              clear q0 q1 q2 q3 q4 q5 q6 p0 p1 p2_ p3_ p4_ p5_ p6_ p7_ t0 t1 t2 t3 t4 t5 t6 t7
                              refine (bitHolds_any _ hP hQ hG hy ha hb hdd hr0 hr1 hs0 hs1 hC0 hC1 hZ0 hZ1 HNN.out HPP.out HTT.out HB2.out).mono ?_
                              rintro e w6 ⟨rfl, hb6⟩
                              replace F_g := Lib.hid (F_g.out.keep hb6)
                              replace F_s := Lib.hid (F_s.out.keep hb6)
                              replace F_p := Lib.hid (F_p.out.keep hb6)
                              replace F_q := Lib.hid (F_q.out.keep hb6)
                              replace HBW := Lib.hid (HBW.out.trans (hb6.mono HBW.out.size))
                              clear hb6
                              obtain ⟨q0, q1, q2, -⟩ := id F_g.out
                              obtain ⟨q3, q4, q5, q6, -⟩ := id F_s.out
                              obtain ⟨p0, p1, p2_, p3_, p4_, p5_, p6_, p7_, -⟩ := id F_p.out
                              obtain ⟨t0, t1, t2, t3, t4, t5, t6, t7, -⟩ := id F_q.out
                              go_wp2_with fail
                              go_ret
                              exact ⟨rfl, HBW.out⟩
                            case pos =>
                              subst hv1_
                              by_cases hv2_ : v2 = true
                              case neg =>
                                have hb_ : v2 = false := by simpa using hv2_
                                subst hb_
                                clear hv2_
                                obtain ⟨q0, q1, q2, -⟩ := id F_g.out
                                obtain ⟨q3, q4, q5, q6, -⟩ := id F_s.out
                                obtain ⟨p0, p1, p2_, p3_, p4_, p5_, p6_, p7_, -⟩ := id F_p.out
                                obtain ⟨t0, t1, t2, t3, t4, t5, t6, t7, -⟩ := id F_q.out
                                go_wp2_with fail
                                clear q0 q1 q2 q3 q4 q5 q6 p0 p1 p2_ p3_ p4_ p5_ p6_ p7_ t0 t1 t2 t3 t4 t5 t6 t7
                                refine (bitHolds_any _ hP hQ hG hy ha hb hcc hr0 hr1 hs0 hs1 hc0 hc1 hz0 hz1 HNN.out HPP.out HTT.out HB1.out).mono ?_
                                rintro e w5 ⟨rfl, hb5⟩
                                replace F_g := Lib.hid (F_g.out.keep hb5)
                                replace F_s := Lib.hid (F_s.out.keep hb5)
                                replace F_p := Lib.hid (F_p.out.keep hb5)
                                replace F_q := Lib.hid (F_q.out.keep hb5)
                                replace HBW := Lib.hid (HBW.out.trans (hb5.mono HBW.out.size))
                                clear hb5
                                obtain ⟨q0, q1, q2, -⟩ := id F_g.out
                                obtain ⟨q3, q4, q5, q6, -⟩ := id F_s.out
                                obtain ⟨p0, p1, p2_, p3_, p4_, p5_, p6_, p7_, -⟩ := id F_p.out
                                obtain ⟨t0, t1, t2, t3, t4, t5, t6, t7, -⟩ := id F_q.out
                                go_wp2_with fail
                                clear q0 q1 q2 q3 q4 q5 q6 p0 p1 p2_ p3_ p4_ p5_ p6_ p7_ t0 t1 t2 t3 t4 t5 t6 t7
                                refine (bitHolds_any _ hP hQ hG hy ha hb hdd hr0 hr1 hs0 hs1 hC0 hC1 hZ0 hZ1 HNN.out HPP.out HTT.out HB2.out).mono ?_
                                rintro e w6 ⟨rfl, hb6⟩
                                replace F_g := Lib.hid (F_g.out.keep hb6)
                                replace F_s := Lib.hid (F_s.out.keep hb6)
                                replace F_p := Lib.hid (F_p.out.keep hb6)
                                replace F_q := Lib.hid (F_q.out.keep hb6)
                                replace HBW := Lib.hid (HBW.out.trans (hb6.mono HBW.out.size))
                                clear hb6
                                obtain ⟨q0, q1, q2, -⟩ := id F_g.out
                                obtain ⟨q3, q4, q5, q6, -⟩ := id F_s.out
                                obtain ⟨p0, p1, p2_, p3_, p4_, p5_, p6_, p7_, -⟩ := id F_p.out
                                obtain ⟨t0, t1, t2, t3, t4, t5, t6, t7, -⟩ := id F_q.out
                                go_wp2_with fail
                                go_ret
                                exact ⟨rfl, HBW.out⟩
                              case pos =>
                                subst hv2_
                                obtain ⟨a1, ⟨x1, x2⟩, ⟨x3, x4⟩, x5⟩ : askS P Q G [cc, c0, c1, z0, z1] [y, a, b, r0, r1, s0, s1] = 0 ∧ (powm G z0 P = r0 * powm a c0 P % P ∧ powm y z0 P = s0 * powm b c0 P % P) ∧ (powm G z1 P = r1 * powm a c1 P % P ∧ powm y z1 P = s1 * powm t c1 P % P) ∧ (c0 + c1) % Q = cc := by
                                  rcases HB1.out with ⟨h, k, -⟩ | ⟨-, h, -⟩
                                  · exact ⟨h, k.1 rfl⟩
                                  · cases h
                                obtain ⟨a2, ⟨y1, y2⟩, ⟨y3, y4⟩, y5⟩ : askS P Q G [dd, C0, C1, Z0, Z1] [y, a, b, r0, r1, s0, s1] = 0 ∧ (powm G Z0 P = r0 * powm a C0 P % P ∧ powm y Z0 P = s0 * powm b C0 P % P) ∧ (powm G Z1 P = r1 * powm a C1 P % P ∧ powm y Z1 P = s1 * powm t C1 P % P) ∧ (C0 + C1) % Q = dd := by
                                  rcases HB2.out with ⟨h, k, -⟩ | ⟨-, h, -⟩
                                  · exact ⟨h, k.1 rfl⟩
                                  · cases h
                                have c0_Q := (askS_zero a1).2.1 c0 (by simp)
                                have c1_Q := (askS_zero a1).2.1 c1 (by simp)
                                have z0_Q := (askS_zero a1).2.1 z0 (by simp)
                                have z1_Q := (askS_zero a1).2.1 z1 (by simp)
                                have C0_Q := (askS_zero a2).2.1 C0 (by simp)
                                have C1_Q := (askS_zero a2).2.1 C1 (by simp)
                                have Z0_Q := (askS_zero a2).2.1 Z0 (by simp)
                                have Z1_Q := (askS_zero a2).2.1 Z1 (by simp)
                                have HXY := Lib.hid (show c0 = C0 → c1 = C1 → False from fun h h' => HNE.out (by rw [← x5, ← y5, h, h']))
                                have HE0 := Lib.hid (And.intro x1 (And.intro y1 (And.intro x2 y2)))
                                have HE1 := Lib.hid (And.intro x3 (And.intro y3 (And.intro x4 y4)))
                                have yP := HM_y.out.2.1
                                clear x1 x2 x3 x4 x5 y1 y2 y3 y4 y5 a1 a2
                                obtain ⟨q0, q1, q2, -⟩ := id F_g.out
                                obtain ⟨q3, q4, q5, q6, -⟩ := id F_s.out
                                obtain ⟨p0, p1, p2_, p3_, p4_, p5_, p6_, p7_, -⟩ := id F_p.out
                                obtain ⟨t0, t1, t2, t3, t4, t5, t6, t7, -⟩ := id F_q.out
                                go_wp2_with fail
                                clear q0 q1 q2 q3 q4 q5 q6 p0 p1 p2_ p3_ p4_ p5_ p6_ p7_ t0 t1 t2 t3 t4 t5 t6 t7
                                refine (bitHolds_any _ hP hQ hG hy ha hb hcc hr0 hr1 hs0 hs1 hc0 hc1 hz0 hz1 HNN.out HPP.out HTT.out HB1.out).mono ?_
                                rintro e w5 ⟨rfl, hb5⟩
                                replace F_g := Lib.hid (F_g.out.keep hb5)
                                replace F_s := Lib.hid (F_s.out.keep hb5)
                                replace F_p := Lib.hid (F_p.out.keep hb5)
                                replace F_q := Lib.hid (F_q.out.keep hb5)
                                replace HBW := Lib.hid (HBW.out.trans (hb5.mono HBW.out.size))
                                clear hb5
                                obtain ⟨q0, q1, q2, -⟩ := id F_g.out
                                obtain ⟨q3, q4, q5, q6, -⟩ := id F_s.out
                                obtain ⟨p0, p1, p2_, p3_, p4_, p5_, p6_, p7_, -⟩ := id F_p.out
                                obtain ⟨t0, t1, t2, t3, t4, t5, t6, t7, -⟩ := id F_q.out
                                go_wp2_with fail
                                clear q0 q1 q2 q3 q4 q5 q6 p0 p1 p2_ p3_ p4_ p5_ p6_ p7_ t0 t1 t2 t3 t4 t5 t6 t7
                                refine (bitHolds_any _ hP hQ hG hy ha hb hdd hr0 hr1 hs0 hs1 hC0 hC1 hZ0 hZ1 HNN.out HPP.out HTT.out HB2.out).mono ?_
                                rintro e w6 ⟨rfl, hb6⟩
                                replace F_g := Lib.hid (F_g.out.keep hb6)
                                replace F_s := Lib.hid (F_s.out.keep hb6)
                                replace F_p := Lib.hid (F_p.out.keep hb6)
                                replace F_q := Lib.hid (F_q.out.keep hb6)
                                replace HBW := Lib.hid (HBW.out.trans (hb6.mono HBW.out.size))
                                clear hb6
                                obtain ⟨q0, q1, q2, -⟩ := id F_g.out
                                obtain ⟨q3, q4, q5, q6, -⟩ := id F_s.out
                                obtain ⟨p0, p1, p2_, p3_, p4_, p5_, p6_, p7_, -⟩ := id F_p.out
                                obtain ⟨t0, t1, t2, t3, t4, t5, t6, t7, -⟩ := id F_q.out
                                go_wp2_with fail
                                clear q0 q1 q2 q3 q4 q5 q6 p0 p1 p2_ p3_ p4_ p5_ p6_ p7_ t0 t1 t2 t3 t4 t5 t6 t7
                                go_loopw [23, 24, 25, 26, 27] (fun c23 c24 c25 c26 c27 wr => ∃ k : Nat, k ≤ 2 ∧ c23 = .int .i64 k ∧ Hid (BsIn w wr P Q G a b r0 r1 s0 s1 c0 c1 z0 z1 r0 r1 s0 s1 C0 C1 Z0 Z1 (1 ≤ k → c0 = C0) (2 ≤ k → False))) (fun c23 _ _ _ _ _ => 2 - (intOf c23).toNat)
                                case atStart => exact ⟨0, by omega, rfl, ⟨F_g.out, F_s.out, F_p.out, F_q.out, HBW.out, fun h => absurd h (by omega), fun h => absurd h (by omega)⟩⟩
                                case round =>
                                  clear F_g F_s F_p F_q HBW
                                  obtain ⟨k, hk, rfl, HK⟩ := hrel
                                  have F_g := Lib.hid HK.out.box
                                  have F_s := Lib.hid HK.out.pr
                                  have F_p := Lib.hid HK.out.ep
                                  have F_q := Lib.hid HK.out.eq
                                  have HBW := Lib.hid HK.out.bel
                                  obtain rfl | rfl | rfl : k = 0 ∨ k = 1 ∨ k = 2 := by omega
                                  case inl =>
                                    clear HK
                                    rw [show ((0 : Nat) : Int) = 0 from rfl]
                                    by_cases hci : c0 = C0
                                    case neg =>
                                      have hcx : (c0 == C0) = false := by simpa using hci
                                      obtain ⟨m, hm⟩ : ∃ m, (c0 - C0) % Q = m := ⟨_, rfl⟩
                                      obtain ⟨n, hn⟩ : ∃ n, (z0 - Z0) % Q = n := ⟨_, rfl⟩
                                      obtain ⟨u, hu⟩ := diff_inv HG.out.pQ hc0 c0_Q hC0 C0_Q hci hm
                                      obtain ⟨x, hx⟩ : ∃ x, n * u % Q = x := ⟨_, rfl⟩
                                      have x0 : 0 ≤ x := by rw [← hx]; exact Int.emod_nonneg _ (by omega)
                                      have xQ : x < Q := by rw [← hx]; exact Int.emod_lt_of_pos _ (by omega)
                                      have HX := Lib.hid (show ExtS P Q G c0 z0 C0 Z0 x 0 from .inl ⟨askS_ok HH.out (by simpa using ⟨c0_Q, z0_Q, C0_Q, Z0_Q⟩) (by simp), true, u, by rw [hm]; exact .inl ⟨rfl, hu⟩, .inl ⟨rfl, by rw [hn]; exact hx, rfl⟩⟩)
                                      have HXE := Lib.hid (bit_opens (i := 0) HG.out HM_y.out HMA.out HMB.out HX0.out.1 HX0.out.2 hc0 c0_Q hC0 C0_Q hci hz0 z0_Q hZ0 Z0_Q HE0.out.1 HE0.out.2.1 HE0.out.2.2.1 HE0.out.2.2.2 HMB.out (by rw [powm_zero, HG.out.one, Int.one_mul]; exact Int.emod_eq_of_lt (Int.le_of_lt HMB.out.1) HMB.out.2.1) hm hn hu hx)
                                      have HEN := Lib.hid (show EncS P Q G y 0 x a b 0 from .inl ⟨askS_ok HH.out (by simpa using ⟨show (0 : Int) < Q by omega, xQ⟩) (by simpa using yP), HXE.out.1, HXE.out.2, rfl⟩)
                                      have i0 : (0 : Int) ≤ 0 := by omega
                                      have hwi : IntKind.u64.wrap 0 = 0 := wrap_u (by omega) (by omega)
                                      clear hm hn hu hx hci
                                      obtain ⟨q0, q1, q2, -⟩ := id F_g.out
                                      obtain ⟨q3, q4, q5, q6, -⟩ := id F_s.out
                                      obtain ⟨p0, p1, p2_, p3_, p4_, p5_, p6_, p7_, -⟩ := id F_p.out
                                      obtain ⟨t0, t1, t2, t3, t4, t5, t6, t7, -⟩ := id F_q.out
                                      go_wp2_with fail
                                      clear q0 q1 q2 q3 q4 q5 q6 p0 p1 p2_ p3_ p4_ p5_ p6_ p7_ t0 t1 t2 t3 t4 t5 t6 t7
                                      replace F_g := Lib.hid F_g.out.drew
                                      replace F_s := Lib.hid F_s.out.drew
                                      replace F_p := Lib.hid F_p.out.drew
                                      replace F_q := Lib.hid F_q.out.drew
                                      replace HBW := Lib.hid HBW.out.drew
                                      have hS := And.intro F_g.out.s (And.intro F_p.out.s F_q.out.s)
                                      refine wp_region_stage 8 (fun w' => SBox w' w.heap.size P Q G ∧ S8 w' (w.heap.size + 1 + 1) r0 r1 s0 s1 c0 c1 z0 z1 ∧ S8 w' (w.heap.size + 1 + 1 + 1) r0 r1 s0 s1 C0 C1 Z0 Z1) (by kernel_rfl) ?_
                                      refine wpAnyB_takeP (i := 0) (some 134) (Op.move (Operand.tmp 23)) 3 (v := ?_) ⟨_, rfl, rfl, rfl, rfl, rfl⟩ (by kernel_rfl) (by kernel_rfl) (by kernel_rfl) (by kernel_rfl) (fun _ _ _ h => h) (fun _ => hS) (fun w' => ?_) ?_
                                      rotate_left
                                      · unfold bareOp
                                        go_simp
                                        try with_reducible rfl
                                      simp only [Act.put, List.setIfInBounds_toArray, List.set_cons_zero, List.set_cons_succ]
                                      refine wpAnyB_takeP (i := 1) (some 135) (Op.fieldAddr 42 (Operand.tmp 10) 2) 0 (v := ?_) ⟨_, rfl, rfl, rfl, rfl, rfl⟩ (by kernel_rfl) (by kernel_rfl) (by kernel_rfl) (by kernel_rfl) (fun _ _ _ h => h) (fun _ => hS) (fun w' => ?_) ?_
                                      rotate_left
                                      · unfold bareOp
                                        go_simp
                                        try with_reducible rfl
                                      simp only [Act.put, List.setIfInBounds_toArray, List.set_cons_zero, List.set_cons_succ]
                                      refine wpAnyB_takeP (i := 2) (some 136) (Op.indexAddr 39 (Operand.tmp 135) (Operand.tmp 134)) 0 (v := ?_) ⟨_, rfl, rfl, rfl, rfl, rfl⟩ (by kernel_rfl) (by kernel_rfl) (by kernel_rfl) (by kernel_rfl) (fun _ _ _ h => h) (fun _ => hS) (fun w' => ?_) ?_
                                      rotate_left
                                      · unfold bareOp
                                        go_simp
                                        try with_reducible rfl
                                      simp only [Act.put, List.setIfInBounds_toArray, List.set_cons_zero, List.set_cons_succ]
                                      refine wpAnyB_take (i := 3) (some 137) (Op.load 22 (Operand.tmp 136)) 22 (v := ?_) ⟨_, rfl, rfl, rfl, rfl, rfl⟩ (by kernel_rfl) (by kernel_rfl) (by kernel_rfl) [8] (by kernel_rfl) (fun _ _ _ h => h) hS (fun w' hSw => ?_) ?_
                                      rotate_left
                                      · obtain ⟨⟨s0_, s1_, s2_⟩, ⟨a0_, a1_, a2_, a3_, a4_, a5_, a6_, a7_⟩, ⟨b0_, b1_, b2_, b3_, b4_, b5_, b6_, b7_⟩⟩ := hSw
                                        unfold bareOp
                                        go_simp
                                        try with_reducible rfl
                                      simp only [Act.put, List.setIfInBounds_toArray, List.set_cons_zero, List.set_cons_succ]
                                      refine wpAnyB_takeP (i := 4) (some 138) (Op.move (Operand.tmp 23)) 3 (v := ?_) ⟨_, rfl, rfl, rfl, rfl, rfl⟩ (by kernel_rfl) (by kernel_rfl) (by kernel_rfl) (by kernel_rfl) (fun _ _ _ h => h) (fun _ => hS) (fun w' => ?_) ?_
                                      rotate_left
                                      · unfold bareOp
                                        go_simp
                                        try with_reducible rfl
                                      simp only [Act.put, List.setIfInBounds_toArray, List.set_cons_zero, List.set_cons_succ]
                                      refine wpAnyB_takeP (i := 5) (some 139) (Op.fieldAddr 42 (Operand.tmp 11) 2) 0 (v := ?_) ⟨_, rfl, rfl, rfl, rfl, rfl⟩ (by kernel_rfl) (by kernel_rfl) (by kernel_rfl) (by kernel_rfl) (fun _ _ _ h => h) (fun _ => hS) (fun w' => ?_) ?_
                                      rotate_left
                                      · unfold bareOp
                                        go_simp
                                        try with_reducible rfl
                                      simp only [Act.put, List.setIfInBounds_toArray, List.set_cons_zero, List.set_cons_succ]
                                      refine wpAnyB_takeP (i := 6) (some 140) (Op.indexAddr 39 (Operand.tmp 139) (Operand.tmp 138)) 0 (v := ?_) ⟨_, rfl, rfl, rfl, rfl, rfl⟩ (by kernel_rfl) (by kernel_rfl) (by kernel_rfl) (by kernel_rfl) (fun _ _ _ h => h) (fun _ => hS) (fun w' => ?_) ?_
                                      rotate_left
                                      · unfold bareOp
                                        go_simp
                                        try with_reducible rfl
                                      simp only [Act.put, List.setIfInBounds_toArray, List.set_cons_zero, List.set_cons_succ]
                                      refine wpAnyB_take (i := 7) (some 141) (Op.load 22 (Operand.tmp 140)) 22 (v := ?_) ⟨_, rfl, rfl, rfl, rfl, rfl⟩ (by kernel_rfl) (by kernel_rfl) (by kernel_rfl) [8] (by kernel_rfl) (fun _ _ _ h => h) hS (fun w' hSw => ?_) ?_
                                      rotate_left
                                      · obtain ⟨⟨s0_, s1_, s2_⟩, ⟨a0_, a1_, a2_, a3_, a4_, a5_, a6_, a7_⟩, ⟨b0_, b1_, b2_, b3_, b4_, b5_, b6_, b7_⟩⟩ := hSw
                                        unfold bareOp
                                        go_simp
                                        try with_reducible rfl
                                      simp only [Act.put, List.setIfInBounds_toArray, List.set_cons_zero, List.set_cons_succ]
                                      refine wpAnyB_only (i := 8) (some 142) (Op.binOp BinOp.eql 22 (Operand.tmp 137) (Operand.tmp 141) 22) 4 ⟨_, rfl, rfl, rfl, rfl, rfl⟩ (by kernel_rfl) (fun K hK => ?_)
                                      unfold bareOp
                                      go_wp2_with fail
                                      refine hK.out _ _ (fun h => absurd (h.symm.trans (by kernel_rfl : _ = true)) (by decide)) ?_
                                      clear hK K
                                      try simp only [Act.put, List.setIfInBounds_toArray, List.set_cons_zero, List.set_cons_succ]
                                      refine wpAnyB_done (by kernel_rfl) ?_ _
                                      clear hS
                                      obtain ⟨q0, q1, q2, -⟩ := id F_g.out
                                      obtain ⟨q3, q4, q5, q6, -⟩ := id F_s.out
                                      obtain ⟨p0, p1, p2_, p3_, p4_, p5_, p6_, p7_, -⟩ := id F_p.out
                                      obtain ⟨t0, t1, t2, t3, t4, t5, t6, t7, -⟩ := id F_q.out
                                      go_wp2_with fail
                                      clear q0 q1 q2 q3 q4 q5 q6 p0 p1 p2_ p3_ p4_ p5_ p6_ p7_ t0 t1 t2 t3 t4 t5 t6 t7
                                      replace F_g := Lib.hid F_g.out.drew
                                      replace F_s := Lib.hid F_s.out.drew
                                      replace F_p := Lib.hid F_p.out.drew
                                      replace F_q := Lib.hid F_q.out.drew
                                      replace HBW := Lib.hid HBW.out.drew
                                      have hS := And.intro F_g.out.s (And.intro F_p.out.s F_q.out.s)
                                      refine wp_region_stage 22 (fun w' => SBox w' w.heap.size P Q G ∧ S8 w' (w.heap.size + 1 + 1) r0 r1 s0 s1 c0 c1 z0 z1 ∧ S8 w' (w.heap.size + 1 + 1 + 1) r0 r1 s0 s1 C0 C1 Z0 Z1) (by kernel_rfl) ?_
                                      refine wpAnyB_take (i := 0) (some 144) (Op.load 24 (Operand.tmp 7)) 24 (v := ?_) ⟨_, rfl, rfl, rfl, rfl, rfl⟩ (by kernel_rfl) (by kernel_rfl) (by kernel_rfl) [17, 18, 19, 20, 21, 22] (by kernel_rfl) (fun _ _ _ h => h) hS (fun w' hSw => ?_) ?_
                                      rotate_left
                                      · obtain ⟨⟨s0_, s1_, s2_⟩, ⟨a0_, a1_, a2_, a3_, a4_, a5_, a6_, a7_⟩, ⟨b0_, b1_, b2_, b3_, b4_, b5_, b6_, b7_⟩⟩ := hSw
                                        unfold bareOp
                                        go_simp
                                        try with_reducible rfl
                                      simp only [Act.put, List.setIfInBounds_toArray, List.set_cons_zero, List.set_cons_succ]
                                      refine wpAnyB_takeP (i := 1) (some 145) (Op.move (Operand.tmp 23)) 3 (v := ?_) ⟨_, rfl, rfl, rfl, rfl, rfl⟩ (by kernel_rfl) (by kernel_rfl) (by kernel_rfl) (by kernel_rfl) (fun _ _ _ h => h) (fun _ => hS) (fun w' => ?_) ?_
                                      rotate_left
                                      · unfold bareOp
                                        go_simp
                                        try with_reducible rfl
                                      simp only [Act.put, List.setIfInBounds_toArray, List.set_cons_zero, List.set_cons_succ]
                                      refine wpAnyB_takeP (i := 2) (some 146) (Op.fieldAddr 42 (Operand.tmp 10) 2) 0 (v := ?_) ⟨_, rfl, rfl, rfl, rfl, rfl⟩ (by kernel_rfl) (by kernel_rfl) (by kernel_rfl) (by kernel_rfl) (fun _ _ _ h => h) (fun _ => hS) (fun w' => ?_) ?_
                                      rotate_left
                                      · unfold bareOp
                                        go_simp
                                        try with_reducible rfl
                                      simp only [Act.put, List.setIfInBounds_toArray, List.set_cons_zero, List.set_cons_succ]
                                      refine wpAnyB_takeP (i := 3) (some 147) (Op.indexAddr 39 (Operand.tmp 146) (Operand.tmp 145)) 0 (v := ?_) ⟨_, rfl, rfl, rfl, rfl, rfl⟩ (by kernel_rfl) (by kernel_rfl) (by kernel_rfl) (by kernel_rfl) (fun _ _ _ h => h) (fun _ => hS) (fun w' => ?_) ?_
                                      rotate_left
                                      · unfold bareOp
                                        go_simp
                                        try with_reducible rfl
                                      simp only [Act.put, List.setIfInBounds_toArray, List.set_cons_zero, List.set_cons_succ]
                                      refine wpAnyB_take (i := 4) (some 148) (Op.load 22 (Operand.tmp 147)) 22 (v := ?_) ⟨_, rfl, rfl, rfl, rfl, rfl⟩ (by kernel_rfl) (by kernel_rfl) (by kernel_rfl) [17, 18, 19, 20, 21, 22] (by kernel_rfl) (fun _ _ _ h => h) hS (fun w' hSw => ?_) ?_
                                      rotate_left
                                      · obtain ⟨⟨s0_, s1_, s2_⟩, ⟨a0_, a1_, a2_, a3_, a4_, a5_, a6_, a7_⟩, ⟨b0_, b1_, b2_, b3_, b4_, b5_, b6_, b7_⟩⟩ := hSw
                                        unfold bareOp
                                        go_simp
                                        try with_reducible rfl
                                      simp only [Act.put, List.setIfInBounds_toArray, List.set_cons_zero, List.set_cons_succ]
                                      refine wpAnyB_takeP (i := 5) (some 149) (Op.move (Operand.tmp 23)) 3 (v := ?_) ⟨_, rfl, rfl, rfl, rfl, rfl⟩ (by kernel_rfl) (by kernel_rfl) (by kernel_rfl) (by kernel_rfl) (fun _ _ _ h => h) (fun _ => hS) (fun w' => ?_) ?_
                                      rotate_left
                                      · unfold bareOp
                                        go_simp
                                        try with_reducible rfl
                                      simp only [Act.put, List.setIfInBounds_toArray, List.set_cons_zero, List.set_cons_succ]
                                      refine wpAnyB_takeP (i := 6) (some 150) (Op.fieldAddr 42 (Operand.tmp 10) 3) 0 (v := ?_) ⟨_, rfl, rfl, rfl, rfl, rfl⟩ (by kernel_rfl) (by kernel_rfl) (by kernel_rfl) (by kernel_rfl) (fun _ _ _ h => h) (fun _ => hS) (fun w' => ?_) ?_
                                      rotate_left
                                      · unfold bareOp
                                        go_simp
                                        try with_reducible rfl
                                      simp only [Act.put, List.setIfInBounds_toArray, List.set_cons_zero, List.set_cons_succ]
                                      refine wpAnyB_takeP (i := 7) (some 151) (Op.indexAddr 39 (Operand.tmp 150) (Operand.tmp 149)) 0 (v := ?_) ⟨_, rfl, rfl, rfl, rfl, rfl⟩ (by kernel_rfl) (by kernel_rfl) (by kernel_rfl) (by kernel_rfl) (fun _ _ _ h => h) (fun _ => hS) (fun w' => ?_) ?_
                                      rotate_left
                                      · unfold bareOp
                                        go_simp
                                        try with_reducible rfl
                                      simp only [Act.put, List.setIfInBounds_toArray, List.set_cons_zero, List.set_cons_succ]
                                      refine wpAnyB_take (i := 8) (some 152) (Op.load 22 (Operand.tmp 151)) 22 (v := ?_) ⟨_, rfl, rfl, rfl, rfl, rfl⟩ (by kernel_rfl) (by kernel_rfl) (by kernel_rfl) [17, 18, 19, 20, 21, 22] (by kernel_rfl) (fun _ _ _ h => h) hS (fun w' hSw => ?_) ?_
                                      rotate_left
                                      · obtain ⟨⟨s0_, s1_, s2_⟩, ⟨a0_, a1_, a2_, a3_, a4_, a5_, a6_, a7_⟩, ⟨b0_, b1_, b2_, b3_, b4_, b5_, b6_, b7_⟩⟩ := hSw
                                        unfold bareOp
                                        go_simp
                                        try with_reducible rfl
                                      simp only [Act.put, List.setIfInBounds_toArray, List.set_cons_zero, List.set_cons_succ]
                                      refine wpAnyB_takeP (i := 9) (some 153) (Op.move (Operand.tmp 23)) 3 (v := ?_) ⟨_, rfl, rfl, rfl, rfl, rfl⟩ (by kernel_rfl) (by kernel_rfl) (by kernel_rfl) (by kernel_rfl) (fun _ _ _ h => h) (fun _ => hS) (fun w' => ?_) ?_
                                      rotate_left
                                      · unfold bareOp
                                        go_simp
                                        try with_reducible rfl
                                      simp only [Act.put, List.setIfInBounds_toArray, List.set_cons_zero, List.set_cons_succ]
                                      refine wpAnyB_takeP (i := 10) (some 154) (Op.fieldAddr 42 (Operand.tmp 11) 2) 0 (v := ?_) ⟨_, rfl, rfl, rfl, rfl, rfl⟩ (by kernel_rfl) (by kernel_rfl) (by kernel_rfl) (by kernel_rfl) (fun _ _ _ h => h) (fun _ => hS) (fun w' => ?_) ?_
                                      rotate_left
                                      · unfold bareOp
                                        go_simp
                                        try with_reducible rfl
                                      simp only [Act.put, List.setIfInBounds_toArray, List.set_cons_zero, List.set_cons_succ]
                                      refine wpAnyB_takeP (i := 11) (some 155) (Op.indexAddr 39 (Operand.tmp 154) (Operand.tmp 153)) 0 (v := ?_) ⟨_, rfl, rfl, rfl, rfl, rfl⟩ (by kernel_rfl) (by kernel_rfl) (by kernel_rfl) (by kernel_rfl) (fun _ _ _ h => h) (fun _ => hS) (fun w' => ?_) ?_
                                      rotate_left
                                      · unfold bareOp
                                        go_simp
                                        try with_reducible rfl
                                      simp only [Act.put, List.setIfInBounds_toArray, List.set_cons_zero, List.set_cons_succ]
                                      refine wpAnyB_take (i := 12) (some 156) (Op.load 22 (Operand.tmp 155)) 22 (v := ?_) ⟨_, rfl, rfl, rfl, rfl, rfl⟩ (by kernel_rfl) (by kernel_rfl) (by kernel_rfl) [17, 18, 19, 20, 21, 22] (by kernel_rfl) (fun _ _ _ h => h) hS (fun w' hSw => ?_) ?_
                                      rotate_left
                                      · obtain ⟨⟨s0_, s1_, s2_⟩, ⟨a0_, a1_, a2_, a3_, a4_, a5_, a6_, a7_⟩, ⟨b0_, b1_, b2_, b3_, b4_, b5_, b6_, b7_⟩⟩ := hSw
                                        unfold bareOp
                                        go_simp
                                        try with_reducible rfl
                                      simp only [Act.put, List.setIfInBounds_toArray, List.set_cons_zero, List.set_cons_succ]
                                      refine wpAnyB_takeP (i := 13) (some 157) (Op.move (Operand.tmp 23)) 3 (v := ?_) ⟨_, rfl, rfl, rfl, rfl, rfl⟩ (by kernel_rfl) (by kernel_rfl) (by kernel_rfl) (by kernel_rfl) (fun _ _ _ h => h) (fun _ => hS) (fun w' => ?_) ?_
                                      rotate_left
                                      · unfold bareOp
                                        go_simp
                                        try with_reducible rfl
                                      simp only [Act.put, List.setIfInBounds_toArray, List.set_cons_zero, List.set_cons_succ]
                                      refine wpAnyB_takeP (i := 14) (some 158) (Op.fieldAddr 42 (Operand.tmp 11) 3) 0 (v := ?_) ⟨_, rfl, rfl, rfl, rfl, rfl⟩ (by kernel_rfl) (by kernel_rfl) (by kernel_rfl) (by kernel_rfl) (fun _ _ _ h => h) (fun _ => hS) (fun w' => ?_) ?_
                                      rotate_left
                                      · unfold bareOp
                                        go_simp
                                        try with_reducible rfl
                                      simp only [Act.put, List.setIfInBounds_toArray, List.set_cons_zero, List.set_cons_succ]
                                      refine wpAnyB_takeP (i := 15) (some 159) (Op.indexAddr 39 (Operand.tmp 158) (Operand.tmp 157)) 0 (v := ?_) ⟨_, rfl, rfl, rfl, rfl, rfl⟩ (by kernel_rfl) (by kernel_rfl) (by kernel_rfl) (by kernel_rfl) (fun _ _ _ h => h) (fun _ => hS) (fun w' => ?_) ?_
                                      rotate_left
                                      · unfold bareOp
                                        go_simp
                                        try with_reducible rfl
                                      simp only [Act.put, List.setIfInBounds_toArray, List.set_cons_zero, List.set_cons_succ]
                                      refine wpAnyB_take (i := 16) (some 160) (Op.load 22 (Operand.tmp 159)) 22 (v := ?_) ⟨_, rfl, rfl, rfl, rfl, rfl⟩ (by kernel_rfl) (by kernel_rfl) (by kernel_rfl) [17, 18, 19, 20, 21, 22] (by kernel_rfl) (fun _ _ _ h => h) hS (fun w' hSw => ?_) ?_
                                      rotate_left
                                      · obtain ⟨⟨s0_, s1_, s2_⟩, ⟨a0_, a1_, a2_, a3_, a4_, a5_, a6_, a7_⟩, ⟨b0_, b1_, b2_, b3_, b4_, b5_, b6_, b7_⟩⟩ := hSw
                                        unfold bareOp
                                        go_simp
                                        try with_reducible rfl
                                      simp only [Act.put, List.setIfInBounds_toArray, List.set_cons_zero, List.set_cons_succ]
                                      refine wpAnyB_only (i := 17) (some 161) (Op.call { callee := Callee.value (Operand.func 10), args := #[Operand.tmp 144, Operand.tmp 148, Operand.tmp 152, Operand.tmp 156, Operand.tmp 160], argTypes := #[24, 22, 22, 22, 22] }) 33 ⟨_, rfl, rfl, rfl, rfl, rfl⟩ (by kernel_rfl) (fun K hK => ?_)
                                      unfold bareOp
                                      go_wp2_with (go_at_call 10; refine (sextract_any _ hP hQ hG hc0 hz0 hC0 hZ0 HX.out).mono ?_; rintro e w5 ⟨rfl, hb5⟩)
                                      replace F_g := Lib.hid (F_g.out.keep hb5)
                                      replace F_s := Lib.hid (F_s.out.keep hb5)
                                      replace F_p := Lib.hid (F_p.out.keep hb5)
                                      replace F_q := Lib.hid (F_q.out.keep hb5)
                                      replace HBW := Lib.hid (HBW.out.trans (hb5.mono HBW.out.size))
                                      clear hb5
                                      replace hS := And.intro F_g.out.s (And.intro F_p.out.s F_q.out.s)
                                      refine hK.out _ _ (fun _ => hS) ?_
                                      clear hK K
                                      try simp only [Act.put, List.setIfInBounds_toArray, List.set_cons_zero, List.set_cons_succ]
                                      refine wpAnyB_takeP (i := 18) (some 143) (Op.move (Operand.tmp 161)) 33 (v := ?_) ⟨_, rfl, rfl, rfl, rfl, rfl⟩ (by kernel_rfl) (by kernel_rfl) (by kernel_rfl) (by kernel_rfl) (fun _ _ _ h => h) (fun _ => hS) (fun w' => ?_) ?_
                                      rotate_left
                                      · unfold bareOp
                                        go_simp
                                        try with_reducible rfl
                                      simp only [Act.put, List.setIfInBounds_toArray, List.set_cons_zero, List.set_cons_succ]
                                      refine wpAnyB_takeP (i := 19) (some 162) (Op.extract (Operand.tmp 143) 0) 22 (v := ?_) ⟨_, rfl, rfl, rfl, rfl, rfl⟩ (by kernel_rfl) (by kernel_rfl) (by kernel_rfl) (by kernel_rfl) (fun _ _ _ h => h) (fun _ => hS) (fun w' => ?_) ?_
                                      rotate_left
                                      · unfold bareOp
                                        go_simp
                                        try with_reducible rfl
                                      simp only [Act.put, List.setIfInBounds_toArray, List.set_cons_zero, List.set_cons_succ]
                                      refine wpAnyB_takeP (i := 20) (some 163) (Op.extract (Operand.tmp 143) 1) 26 (v := ?_) ⟨_, rfl, rfl, rfl, rfl, rfl⟩ (by kernel_rfl) (by kernel_rfl) (by kernel_rfl) (by kernel_rfl) (fun _ _ _ h => h) (fun _ => hS) (fun w' => ?_) ?_
                                      rotate_left
                                      · unfold bareOp
                                        go_simp
                                        try with_reducible rfl
                                      simp only [Act.put, List.setIfInBounds_toArray, List.set_cons_zero, List.set_cons_succ]
                                      refine wpAnyB_takeP (i := 21) (some 24) (Op.assign (Operand.tmp 162)) 22 (v := ?_) ⟨_, rfl, rfl, rfl, rfl, rfl⟩ (by kernel_rfl) (by kernel_rfl) (by kernel_rfl) (by kernel_rfl) (fun _ _ _ h => h) (fun _ => hS) (fun w' => ?_) ?_
                                      rotate_left
                                      · unfold bareOp
                                        go_simp
                                        try with_reducible rfl
                                      simp only [Act.put, List.setIfInBounds_toArray, List.set_cons_zero, List.set_cons_succ]
                                      refine wpAnyB_only (i := 22) (some 25) (Op.assign (Operand.tmp 163)) 26 ⟨_, rfl, rfl, rfl, rfl, rfl⟩ (by kernel_rfl) (fun K hK => ?_)
                                      unfold bareOp
                                      go_wp2_with fail
                                      refine hK.out _ _ (fun h => absurd (h.symm.trans (by kernel_rfl : _ = true)) (by decide)) ?_
                                      clear hK K
                                      try simp only [Act.put, List.setIfInBounds_toArray, List.set_cons_zero, List.set_cons_succ]
                                      refine wpAnyB_done (by kernel_rfl) ?_ _
                                      clear hS
                                      obtain ⟨q0, q1, q2, -⟩ := id F_g.out
                                      obtain ⟨q3, q4, q5, q6, -⟩ := id F_s.out
                                      obtain ⟨p0, p1, p2_, p3_, p4_, p5_, p6_, p7_, -⟩ := id F_p.out
                                      obtain ⟨t0, t1, t2, t3, t4, t5, t6, t7, -⟩ := id F_q.out
                                      go_wp2_with fail
                                      clear q0 q1 q2 q3 q4 q5 q6 p0 p1 p2_ p3_ p4_ p5_ p6_ p7_ t0 t1 t2 t3 t4 t5 t6 t7
                                      refine (encrypt_gen _ hP hQ hG hy i0 x0 HEN.out).mono ?_
                                      rintro e w6 ⟨rfl, hb6⟩
                                      replace F_g := Lib.hid (F_g.out.keep hb6)
                                      replace F_s := Lib.hid (F_s.out.keep hb6)
                                      replace F_p := Lib.hid (F_p.out.keep hb6)
                                      replace F_q := Lib.hid (F_q.out.keep hb6)
                                      replace HBW := Lib.hid (HBW.out.trans (hb6.mono HBW.out.size))
                                      clear hb6
                                      have hls := F_s.out.lt
                                      obtain ⟨q0, q1, q2, -⟩ := id F_g.out
                                      obtain ⟨q3, q4, q5, q6, -⟩ := id F_s.out
                                      obtain ⟨p0, p1, p2_, p3_, p4_, p5_, p6_, p7_, -⟩ := id F_p.out
                                      obtain ⟨t0, t1, t2, t3, t4, t5, t6, t7, -⟩ := id F_q.out
                                      go_wp2_with fail
                                      go_ret
                                      exact ⟨rfl, HBW.out.alloc HBW.out.size _⟩
                                    case pos =>
                                      have hcx : (c0 == C0) = true := by simpa using hci
                                      have HCI := Lib.hid hci
                                      clear hci
                                      obtain ⟨q0, q1, q2, -⟩ := id F_g.out
                                      obtain ⟨q3, q4, q5, q6, -⟩ := id F_s.out
                                      obtain ⟨p0, p1, p2_, p3_, p4_, p5_, p6_, p7_, -⟩ := id F_p.out
                                      obtain ⟨t0, t1, t2, t3, t4, t5, t6, t7, -⟩ := id F_q.out
                                      go_wp2_with fail
                                      clear q0 q1 q2 q3 q4 q5 q6 p0 p1 p2_ p3_ p4_ p5_ p6_ p7_ t0 t1 t2 t3 t4 t5 t6 t7
                                      replace F_g := Lib.hid F_g.out.drew
                                      replace F_s := Lib.hid F_s.out.drew
                                      replace F_p := Lib.hid F_p.out.drew
                                      replace F_q := Lib.hid F_q.out.drew
                                      replace HBW := Lib.hid HBW.out.drew
                                      have hS := And.intro F_g.out.s (And.intro F_p.out.s F_q.out.s)
                                      refine wp_region_stage 8 (fun w' => SBox w' w.heap.size P Q G ∧ S8 w' (w.heap.size + 1 + 1) r0 r1 s0 s1 c0 c1 z0 z1 ∧ S8 w' (w.heap.size + 1 + 1 + 1) r0 r1 s0 s1 C0 C1 Z0 Z1) (by kernel_rfl) ?_
                                      refine wpAnyB_takeP (i := 0) (some 134) (Op.move (Operand.tmp 23)) 3 (v := ?_) ⟨_, rfl, rfl, rfl, rfl, rfl⟩ (by kernel_rfl) (by kernel_rfl) (by kernel_rfl) (by kernel_rfl) (fun _ _ _ h => h) (fun _ => hS) (fun w' => ?_) ?_
                                      rotate_left
                                      · unfold bareOp
                                        go_simp
                                        try with_reducible rfl
                                      simp only [Act.put, List.setIfInBounds_toArray, List.set_cons_zero, List.set_cons_succ]
                                      refine wpAnyB_takeP (i := 1) (some 135) (Op.fieldAddr 42 (Operand.tmp 10) 2) 0 (v := ?_) ⟨_, rfl, rfl, rfl, rfl, rfl⟩ (by kernel_rfl) (by kernel_rfl) (by kernel_rfl) (by kernel_rfl) (fun _ _ _ h => h) (fun _ => hS) (fun w' => ?_) ?_
                                      rotate_left
                                      · unfold bareOp
                                        go_simp
                                        try with_reducible rfl
                                      simp only [Act.put, List.setIfInBounds_toArray, List.set_cons_zero, List.set_cons_succ]
                                      refine wpAnyB_takeP (i := 2) (some 136) (Op.indexAddr 39 (Operand.tmp 135) (Operand.tmp 134)) 0 (v := ?_) ⟨_, rfl, rfl, rfl, rfl, rfl⟩ (by kernel_rfl) (by kernel_rfl) (by kernel_rfl) (by kernel_rfl) (fun _ _ _ h => h) (fun _ => hS) (fun w' => ?_) ?_
                                      rotate_left
                                      · unfold bareOp
                                        go_simp
                                        try with_reducible rfl
                                      simp only [Act.put, List.setIfInBounds_toArray, List.set_cons_zero, List.set_cons_succ]
                                      refine wpAnyB_take (i := 3) (some 137) (Op.load 22 (Operand.tmp 136)) 22 (v := ?_) ⟨_, rfl, rfl, rfl, rfl, rfl⟩ (by kernel_rfl) (by kernel_rfl) (by kernel_rfl) [8] (by kernel_rfl) (fun _ _ _ h => h) hS (fun w' hSw => ?_) ?_
                                      rotate_left
                                      · obtain ⟨⟨s0_, s1_, s2_⟩, ⟨a0_, a1_, a2_, a3_, a4_, a5_, a6_, a7_⟩, ⟨b0_, b1_, b2_, b3_, b4_, b5_, b6_, b7_⟩⟩ := hSw
                                        unfold bareOp
                                        go_simp
                                        try with_reducible rfl
                                      simp only [Act.put, List.setIfInBounds_toArray, List.set_cons_zero, List.set_cons_succ]
                                      refine wpAnyB_takeP (i := 4) (some 138) (Op.move (Operand.tmp 23)) 3 (v := ?_) ⟨_, rfl, rfl, rfl, rfl, rfl⟩ (by kernel_rfl) (by kernel_rfl) (by kernel_rfl) (by kernel_rfl) (fun _ _ _ h => h) (fun _ => hS) (fun w' => ?_) ?_
                                      rotate_left
                                      · unfold bareOp
                                        go_simp
                                        try with_reducible rfl
                                      simp only [Act.put, List.setIfInBounds_toArray, List.set_cons_zero, List.set_cons_succ]
                                      refine wpAnyB_takeP (i := 5) (some 139) (Op.fieldAddr 42 (Operand.tmp 11) 2) 0 (v := ?_) ⟨_, rfl, rfl, rfl, rfl, rfl⟩ (by kernel_rfl) (by kernel_rfl) (by kernel_rfl) (by kernel_rfl) (fun _ _ _ h => h) (fun _ => hS) (fun w' => ?_) ?_
                                      rotate_left
                                      · unfold bareOp
                                        go_simp
                                        try with_reducible rfl
                                      simp only [Act.put, List.setIfInBounds_toArray, List.set_cons_zero, List.set_cons_succ]
                                      refine wpAnyB_takeP (i := 6) (some 140) (Op.indexAddr 39 (Operand.tmp 139) (Operand.tmp 138)) 0 (v := ?_) ⟨_, rfl, rfl, rfl, rfl, rfl⟩ (by kernel_rfl) (by kernel_rfl) (by kernel_rfl) (by kernel_rfl) (fun _ _ _ h => h) (fun _ => hS) (fun w' => ?_) ?_
                                      rotate_left
                                      · unfold bareOp
                                        go_simp
                                        try with_reducible rfl
                                      simp only [Act.put, List.setIfInBounds_toArray, List.set_cons_zero, List.set_cons_succ]
                                      refine wpAnyB_take (i := 7) (some 141) (Op.load 22 (Operand.tmp 140)) 22 (v := ?_) ⟨_, rfl, rfl, rfl, rfl, rfl⟩ (by kernel_rfl) (by kernel_rfl) (by kernel_rfl) [8] (by kernel_rfl) (fun _ _ _ h => h) hS (fun w' hSw => ?_) ?_
                                      rotate_left
                                      · obtain ⟨⟨s0_, s1_, s2_⟩, ⟨a0_, a1_, a2_, a3_, a4_, a5_, a6_, a7_⟩, ⟨b0_, b1_, b2_, b3_, b4_, b5_, b6_, b7_⟩⟩ := hSw
                                        unfold bareOp
                                        go_simp
                                        try with_reducible rfl
                                      simp only [Act.put, List.setIfInBounds_toArray, List.set_cons_zero, List.set_cons_succ]
                                      refine wpAnyB_only (i := 8) (some 142) (Op.binOp BinOp.eql 22 (Operand.tmp 137) (Operand.tmp 141) 22) 4 ⟨_, rfl, rfl, rfl, rfl, rfl⟩ (by kernel_rfl) (fun K hK => ?_)
                                      unfold bareOp
                                      go_wp2_with fail
                                      refine hK.out _ _ (fun h => absurd (h.symm.trans (by kernel_rfl : _ = true)) (by decide)) ?_
                                      clear hK K
                                      try simp only [Act.put, List.setIfInBounds_toArray, List.set_cons_zero, List.set_cons_succ]
                                      refine wpAnyB_done (by kernel_rfl) ?_ _
                                      clear hS
                                      obtain ⟨q0, q1, q2, -⟩ := id F_g.out
                                      obtain ⟨q3, q4, q5, q6, -⟩ := id F_s.out
                                      obtain ⟨p0, p1, p2_, p3_, p4_, p5_, p6_, p7_, -⟩ := id F_p.out
                                      obtain ⟨t0, t1, t2, t3, t4, t5, t6, t7, -⟩ := id F_q.out
                                      go_wp2_with fail
                                      clear q0 q1 q2 q3 q4 q5 q6 p0 p1 p2_ p3_ p4_ p5_ p6_ p7_ t0 t1 t2 t3 t4 t5 t6 t7
                                      go_roundw
                                      case rel => exact ⟨1, by omega, by go_num, ⟨F_g.out, F_s.out, F_p.out, F_q.out, HBW.out, fun _ => HCI.out, fun h => absurd h (by omega)⟩⟩
                                      case measure => simp [intOf]
                                  case inr.inl =>
                                    have HC0 := Lib.hid (HK.out.x0 (by omega))
                                    clear HK
                                    rw [show ((1 : Nat) : Int) = 1 from rfl]
                                    by_cases hci : c1 = C1
                                    case neg =>
                                      have hcx : (c1 == C1) = false := by simpa using hci
                                      obtain ⟨m, hm⟩ : ∃ m, (c1 - C1) % Q = m := ⟨_, rfl⟩
                                      obtain ⟨n, hn⟩ : ∃ n, (z1 - Z1) % Q = n := ⟨_, rfl⟩
                                      obtain ⟨u, hu⟩ := diff_inv HG.out.pQ hc1 c1_Q hC1 C1_Q hci hm
                                      obtain ⟨x, hx⟩ : ∃ x, n * u % Q = x := ⟨_, rfl⟩
                                      have x0 : 0 ≤ x := by rw [← hx]; exact Int.emod_nonneg _ (by omega)
                                      have xQ : x < Q := by rw [← hx]; exact Int.emod_lt_of_pos _ (by omega)
                                      have HX := Lib.hid (show ExtS P Q G c1 z1 C1 Z1 x 0 from .inl ⟨askS_ok HH.out (by simpa using ⟨c1_Q, z1_Q, C1_Q, Z1_Q⟩) (by simp), true, u, by rw [hm]; exact .inl ⟨rfl, hu⟩, .inl ⟨rfl, by rw [hn]; exact hx, rfl⟩⟩)
                                      have HXE := Lib.hid (bit_opens (i := 1) HG.out HM_y.out HMA.out HMB.out HX1.out.1 HX1.out.2 hc1 c1_Q hC1 C1_Q hci hz1 z1_Q hZ1 Z1_Q HE1.out.1 HE1.out.2.1 HE1.out.2.2.1 HE1.out.2.2.2 (by rw [← HTT.out, ← HPP.out]; exact HG.out.mem_mul HMB.out (HG.out.mem_pow HG.out.mem_g nn)) (target_one HG.out HMB.out HNN.out HPP.out HTT.out) hm hn hu hx)
                                      have HEN := Lib.hid (show EncS P Q G y 1 x a b 0 from .inl ⟨askS_ok HH.out (by simpa using ⟨show (1 : Int) < Q by omega, xQ⟩) (by simpa using yP), HXE.out.1, HXE.out.2, rfl⟩)
                                      have i0 : (0 : Int) ≤ 1 := by omega
                                      have hwi : IntKind.u64.wrap 1 = 1 := wrap_u (by omega) (by omega)
                                      clear hm hn hu hx hci
                                      obtain ⟨q0, q1, q2, -⟩ := id F_g.out
                                      obtain ⟨q3, q4, q5, q6, -⟩ := id F_s.out
                                      obtain ⟨p0, p1, p2_, p3_, p4_, p5_, p6_, p7_, -⟩ := id F_p.out
                                      obtain ⟨t0, t1, t2, t3, t4, t5, t6, t7, -⟩ := id F_q.out
                                      go_wp2_with fail
                                      clear q0 q1 q2 q3 q4 q5 q6 p0 p1 p2_ p3_ p4_ p5_ p6_ p7_ t0 t1 t2 t3 t4 t5 t6 t7
                                      replace F_g := Lib.hid F_g.out.drew
                                      replace F_s := Lib.hid F_s.out.drew
                                      replace F_p := Lib.hid F_p.out.drew
                                      replace F_q := Lib.hid F_q.out.drew
                                      replace HBW := Lib.hid HBW.out.drew
                                      have hS := And.intro F_g.out.s (And.intro F_p.out.s F_q.out.s)
                                      refine wp_region_stage 8 (fun w' => SBox w' w.heap.size P Q G ∧ S8 w' (w.heap.size + 1 + 1) r0 r1 s0 s1 c0 c1 z0 z1 ∧ S8 w' (w.heap.size + 1 + 1 + 1) r0 r1 s0 s1 C0 C1 Z0 Z1) (by kernel_rfl) ?_
                                      refine wpAnyB_takeP (i := 0) (some 134) (Op.move (Operand.tmp 23)) 3 (v := ?_) ⟨_, rfl, rfl, rfl, rfl, rfl⟩ (by kernel_rfl) (by kernel_rfl) (by kernel_rfl) (by kernel_rfl) (fun _ _ _ h => h) (fun _ => hS) (fun w' => ?_) ?_
                                      rotate_left
                                      · unfold bareOp
                                        go_simp
                                        try with_reducible rfl
                                      simp only [Act.put, List.setIfInBounds_toArray, List.set_cons_zero, List.set_cons_succ]
                                      refine wpAnyB_takeP (i := 1) (some 135) (Op.fieldAddr 42 (Operand.tmp 10) 2) 0 (v := ?_) ⟨_, rfl, rfl, rfl, rfl, rfl⟩ (by kernel_rfl) (by kernel_rfl) (by kernel_rfl) (by kernel_rfl) (fun _ _ _ h => h) (fun _ => hS) (fun w' => ?_) ?_
                                      rotate_left
                                      · unfold bareOp
                                        go_simp
                                        try with_reducible rfl
                                      simp only [Act.put, List.setIfInBounds_toArray, List.set_cons_zero, List.set_cons_succ]
                                      refine wpAnyB_takeP (i := 2) (some 136) (Op.indexAddr 39 (Operand.tmp 135) (Operand.tmp 134)) 0 (v := ?_) ⟨_, rfl, rfl, rfl, rfl, rfl⟩ (by kernel_rfl) (by kernel_rfl) (by kernel_rfl) (by kernel_rfl) (fun _ _ _ h => h) (fun _ => hS) (fun w' => ?_) ?_
                                      rotate_left
                                      · unfold bareOp
                                        go_simp
                                        try with_reducible rfl
                                      simp only [Act.put, List.setIfInBounds_toArray, List.set_cons_zero, List.set_cons_succ]
                                      refine wpAnyB_take (i := 3) (some 137) (Op.load 22 (Operand.tmp 136)) 22 (v := ?_) ⟨_, rfl, rfl, rfl, rfl, rfl⟩ (by kernel_rfl) (by kernel_rfl) (by kernel_rfl) [8] (by kernel_rfl) (fun _ _ _ h => h) hS (fun w' hSw => ?_) ?_
                                      rotate_left
                                      · obtain ⟨⟨s0_, s1_, s2_⟩, ⟨a0_, a1_, a2_, a3_, a4_, a5_, a6_, a7_⟩, ⟨b0_, b1_, b2_, b3_, b4_, b5_, b6_, b7_⟩⟩ := hSw
                                        unfold bareOp
                                        go_simp
                                        try with_reducible rfl
                                      simp only [Act.put, List.setIfInBounds_toArray, List.set_cons_zero, List.set_cons_succ]
                                      refine wpAnyB_takeP (i := 4) (some 138) (Op.move (Operand.tmp 23)) 3 (v := ?_) ⟨_, rfl, rfl, rfl, rfl, rfl⟩ (by kernel_rfl) (by kernel_rfl) (by kernel_rfl) (by kernel_rfl) (fun _ _ _ h => h) (fun _ => hS) (fun w' => ?_) ?_
                                      rotate_left
                                      · unfold bareOp
                                        go_simp
                                        try with_reducible rfl
                                      simp only [Act.put, List.setIfInBounds_toArray, List.set_cons_zero, List.set_cons_succ]
                                      refine wpAnyB_takeP (i := 5) (some 139) (Op.fieldAddr 42 (Operand.tmp 11) 2) 0 (v := ?_) ⟨_, rfl, rfl, rfl, rfl, rfl⟩ (by kernel_rfl) (by kernel_rfl) (by kernel_rfl) (by kernel_rfl) (fun _ _ _ h => h) (fun _ => hS) (fun w' => ?_) ?_
                                      rotate_left
                                      · unfold bareOp
                                        go_simp
                                        try with_reducible rfl
                                      simp only [Act.put, List.setIfInBounds_toArray, List.set_cons_zero, List.set_cons_succ]
                                      refine wpAnyB_takeP (i := 6) (some 140) (Op.indexAddr 39 (Operand.tmp 139) (Operand.tmp 138)) 0 (v := ?_) ⟨_, rfl, rfl, rfl, rfl, rfl⟩ (by kernel_rfl) (by kernel_rfl) (by kernel_rfl) (by kernel_rfl) (fun _ _ _ h => h) (fun _ => hS) (fun w' => ?_) ?_
                                      rotate_left
                                      · unfold bareOp
                                        go_simp
                                        try with_reducible rfl
                                      simp only [Act.put, List.setIfInBounds_toArray, List.set_cons_zero, List.set_cons_succ]
                                      refine wpAnyB_take (i := 7) (some 141) (Op.load 22 (Operand.tmp 140)) 22 (v := ?_) ⟨_, rfl, rfl, rfl, rfl, rfl⟩ (by kernel_rfl) (by kernel_rfl) (by kernel_rfl) [8] (by kernel_rfl) (fun _ _ _ h => h) hS (fun w' hSw => ?_) ?_
                                      rotate_left
                                      · obtain ⟨⟨s0_, s1_, s2_⟩, ⟨a0_, a1_, a2_, a3_, a4_, a5_, a6_, a7_⟩, ⟨b0_, b1_, b2_, b3_, b4_, b5_, b6_, b7_⟩⟩ := hSw
                                        unfold bareOp
                                        go_simp
                                        try with_reducible rfl
                                      simp only [Act.put, List.setIfInBounds_toArray, List.set_cons_zero, List.set_cons_succ]
                                      refine wpAnyB_only (i := 8) (some 142) (Op.binOp BinOp.eql 22 (Operand.tmp 137) (Operand.tmp 141) 22) 4 ⟨_, rfl, rfl, rfl, rfl, rfl⟩ (by kernel_rfl) (fun K hK => ?_)
                                      unfold bareOp
                                      go_wp2_with fail
                                      refine hK.out _ _ (fun h => absurd (h.symm.trans (by kernel_rfl : _ = true)) (by decide)) ?_
                                      clear hK K
                                      try simp only [Act.put, List.setIfInBounds_toArray, List.set_cons_zero, List.set_cons_succ]
                                      refine wpAnyB_done (by kernel_rfl) ?_ _
                                      clear hS
                                      obtain ⟨q0, q1, q2, -⟩ := id F_g.out
                                      obtain ⟨q3, q4, q5, q6, -⟩ := id F_s.out
                                      obtain ⟨p0, p1, p2_, p3_, p4_, p5_, p6_, p7_, -⟩ := id F_p.out
                                      obtain ⟨t0, t1, t2, t3, t4, t5, t6, t7, -⟩ := id F_q.out
                                      go_wp2_with fail
                                      clear q0 q1 q2 q3 q4 q5 q6 p0 p1 p2_ p3_ p4_ p5_ p6_ p7_ t0 t1 t2 t3 t4 t5 t6 t7
                                      replace F_g := Lib.hid F_g.out.drew
                                      replace F_s := Lib.hid F_s.out.drew
                                      replace F_p := Lib.hid F_p.out.drew
                                      replace F_q := Lib.hid F_q.out.drew
                                      replace HBW := Lib.hid HBW.out.drew
                                      have hS := And.intro F_g.out.s (And.intro F_p.out.s F_q.out.s)
                                      refine wp_region_stage 22 (fun w' => SBox w' w.heap.size P Q G ∧ S8 w' (w.heap.size + 1 + 1) r0 r1 s0 s1 c0 c1 z0 z1 ∧ S8 w' (w.heap.size + 1 + 1 + 1) r0 r1 s0 s1 C0 C1 Z0 Z1) (by kernel_rfl) ?_
                                      refine wpAnyB_take (i := 0) (some 144) (Op.load 24 (Operand.tmp 7)) 24 (v := ?_) ⟨_, rfl, rfl, rfl, rfl, rfl⟩ (by kernel_rfl) (by kernel_rfl) (by kernel_rfl) [17, 18, 19, 20, 21, 22] (by kernel_rfl) (fun _ _ _ h => h) hS (fun w' hSw => ?_) ?_
                                      rotate_left
                                      · obtain ⟨⟨s0_, s1_, s2_⟩, ⟨a0_, a1_, a2_, a3_, a4_, a5_, a6_, a7_⟩, ⟨b0_, b1_, b2_, b3_, b4_, b5_, b6_, b7_⟩⟩ := hSw
                                        unfold bareOp
                                        go_simp
                                        try with_reducible rfl
                                      simp only [Act.put, List.setIfInBounds_toArray, List.set_cons_zero, List.set_cons_succ]
                                      refine wpAnyB_takeP (i := 1) (some 145) (Op.move (Operand.tmp 23)) 3 (v := ?_) ⟨_, rfl, rfl, rfl, rfl, rfl⟩ (by kernel_rfl) (by kernel_rfl) (by kernel_rfl) (by kernel_rfl) (fun _ _ _ h => h) (fun _ => hS) (fun w' => ?_) ?_
                                      rotate_left
                                      · unfold bareOp
                                        go_simp
                                        try with_reducible rfl
                                      simp only [Act.put, List.setIfInBounds_toArray, List.set_cons_zero, List.set_cons_succ]
                                      refine wpAnyB_takeP (i := 2) (some 146) (Op.fieldAddr 42 (Operand.tmp 10) 2) 0 (v := ?_) ⟨_, rfl, rfl, rfl, rfl, rfl⟩ (by kernel_rfl) (by kernel_rfl) (by kernel_rfl) (by kernel_rfl) (fun _ _ _ h => h) (fun _ => hS) (fun w' => ?_) ?_
                                      rotate_left
                                      · unfold bareOp
                                        go_simp
                                        try with_reducible rfl
                                      simp only [Act.put, List.setIfInBounds_toArray, List.set_cons_zero, List.set_cons_succ]
                                      refine wpAnyB_takeP (i := 3) (some 147) (Op.indexAddr 39 (Operand.tmp 146) (Operand.tmp 145)) 0 (v := ?_) ⟨_, rfl, rfl, rfl, rfl, rfl⟩ (by kernel_rfl) (by kernel_rfl) (by kernel_rfl) (by kernel_rfl) (fun _ _ _ h => h) (fun _ => hS) (fun w' => ?_) ?_
                                      rotate_left
                                      · unfold bareOp
                                        go_simp
                                        try with_reducible rfl
                                      simp only [Act.put, List.setIfInBounds_toArray, List.set_cons_zero, List.set_cons_succ]
                                      refine wpAnyB_take (i := 4) (some 148) (Op.load 22 (Operand.tmp 147)) 22 (v := ?_) ⟨_, rfl, rfl, rfl, rfl, rfl⟩ (by kernel_rfl) (by kernel_rfl) (by kernel_rfl) [17, 18, 19, 20, 21, 22] (by kernel_rfl) (fun _ _ _ h => h) hS (fun w' hSw => ?_) ?_
                                      rotate_left
                                      · obtain ⟨⟨s0_, s1_, s2_⟩, ⟨a0_, a1_, a2_, a3_, a4_, a5_, a6_, a7_⟩, ⟨b0_, b1_, b2_, b3_, b4_, b5_, b6_, b7_⟩⟩ := hSw
                                        unfold bareOp
                                        go_simp
                                        try with_reducible rfl
                                      simp only [Act.put, List.setIfInBounds_toArray, List.set_cons_zero, List.set_cons_succ]
                                      refine wpAnyB_takeP (i := 5) (some 149) (Op.move (Operand.tmp 23)) 3 (v := ?_) ⟨_, rfl, rfl, rfl, rfl, rfl⟩ (by kernel_rfl) (by kernel_rfl) (by kernel_rfl) (by kernel_rfl) (fun _ _ _ h => h) (fun _ => hS) (fun w' => ?_) ?_
                                      rotate_left
                                      · unfold bareOp
                                        go_simp
                                        try with_reducible rfl
                                      simp only [Act.put, List.setIfInBounds_toArray, List.set_cons_zero, List.set_cons_succ]
                                      refine wpAnyB_takeP (i := 6) (some 150) (Op.fieldAddr 42 (Operand.tmp 10) 3) 0 (v := ?_) ⟨_, rfl, rfl, rfl, rfl, rfl⟩ (by kernel_rfl) (by kernel_rfl) (by kernel_rfl) (by kernel_rfl) (fun _ _ _ h => h) (fun _ => hS) (fun w' => ?_) ?_
                                      rotate_left
                                      · unfold bareOp
                                        go_simp
                                        try with_reducible rfl
                                      simp only [Act.put, List.setIfInBounds_toArray, List.set_cons_zero, List.set_cons_succ]
                                      refine wpAnyB_takeP (i := 7) (some 151) (Op.indexAddr 39 (Operand.tmp 150) (Operand.tmp 149)) 0 (v := ?_) ⟨_, rfl, rfl, rfl, rfl, rfl⟩ (by kernel_rfl) (by kernel_rfl) (by kernel_rfl) (by kernel_rfl) (fun _ _ _ h => h) (fun _ => hS) (fun w' => ?_) ?_
                                      rotate_left
                                      · unfold bareOp
                                        go_simp
                                        try with_reducible rfl
                                      simp only [Act.put, List.setIfInBounds_toArray, List.set_cons_zero, List.set_cons_succ]
                                      refine wpAnyB_take (i := 8) (some 152) (Op.load 22 (Operand.tmp 151)) 22 (v := ?_) ⟨_, rfl, rfl, rfl, rfl, rfl⟩ (by kernel_rfl) (by kernel_rfl) (by kernel_rfl) [17, 18, 19, 20, 21, 22] (by kernel_rfl) (fun _ _ _ h => h) hS (fun w' hSw => ?_) ?_
                                      rotate_left
                                      · obtain ⟨⟨s0_, s1_, s2_⟩, ⟨a0_, a1_, a2_, a3_, a4_, a5_, a6_, a7_⟩, ⟨b0_, b1_, b2_, b3_, b4_, b5_, b6_, b7_⟩⟩ := hSw
                                        unfold bareOp
                                        go_simp
                                        try with_reducible rfl
                                      simp only [Act.put, List.setIfInBounds_toArray, List.set_cons_zero, List.set_cons_succ]
                                      refine wpAnyB_takeP (i := 9) (some 153) (Op.move (Operand.tmp 23)) 3 (v := ?_) ⟨_, rfl, rfl, rfl, rfl, rfl⟩ (by kernel_rfl) (by kernel_rfl) (by kernel_rfl) (by kernel_rfl) (fun _ _ _ h => h) (fun _ => hS) (fun w' => ?_) ?_
                                      rotate_left
                                      · unfold bareOp
                                        go_simp
                                        try with_reducible rfl
                                      simp only [Act.put, List.setIfInBounds_toArray, List.set_cons_zero, List.set_cons_succ]
                                      refine wpAnyB_takeP (i := 10) (some 154) (Op.fieldAddr 42 (Operand.tmp 11) 2) 0 (v := ?_) ⟨_, rfl, rfl, rfl, rfl, rfl⟩ (by kernel_rfl) (by kernel_rfl) (by kernel_rfl) (by kernel_rfl) (fun _ _ _ h => h) (fun _ => hS) (fun w' => ?_) ?_
                                      rotate_left
                                      · unfold bareOp
                                        go_simp
                                        try with_reducible rfl
                                      simp only [Act.put, List.setIfInBounds_toArray, List.set_cons_zero, List.set_cons_succ]
                                      refine wpAnyB_takeP (i := 11) (some 155) (Op.indexAddr 39 (Operand.tmp 154) (Operand.tmp 153)) 0 (v := ?_) ⟨_, rfl, rfl, rfl, rfl, rfl⟩ (by kernel_rfl) (by kernel_rfl) (by kernel_rfl) (by kernel_rfl) (fun _ _ _ h => h) (fun _ => hS) (fun w' => ?_) ?_
                                      rotate_left
                                      · unfold bareOp
                                        go_simp
                                        try with_reducible rfl
                                      simp only [Act.put, List.setIfInBounds_toArray, List.set_cons_zero, List.set_cons_succ]
                                      refine wpAnyB_take (i := 12) (some 156) (Op.load 22 (Operand.tmp 155)) 22 (v := ?_) ⟨_, rfl, rfl, rfl, rfl, rfl⟩ (by kernel_rfl) (by kernel_rfl) (by kernel_rfl) [17, 18, 19, 20, 21, 22] (by kernel_rfl) (fun _ _ _ h => h) hS (fun w' hSw => ?_) ?_
                                      rotate_left
                                      · obtain ⟨⟨s0_, s1_, s2_⟩, ⟨a0_, a1_, a2_, a3_, a4_, a5_, a6_, a7_⟩, ⟨b0_, b1_, b2_, b3_, b4_, b5_, b6_, b7_⟩⟩ := hSw
                                        unfold bareOp
                                        go_simp
                                        try with_reducible rfl
                                      simp only [Act.put, List.setIfInBounds_toArray, List.set_cons_zero, List.set_cons_succ]
                                      refine wpAnyB_takeP (i := 13) (some 157) (Op.move (Operand.tmp 23)) 3 (v := ?_) ⟨_, rfl, rfl, rfl, rfl, rfl⟩ (by kernel_rfl) (by kernel_rfl) (by kernel_rfl) (by kernel_rfl) (fun _ _ _ h => h) (fun _ => hS) (fun w' => ?_) ?_
                                      rotate_left
                                      · unfold bareOp
                                        go_simp
                                        try with_reducible rfl
                                      simp only [Act.put, List.setIfInBounds_toArray, List.set_cons_zero, List.set_cons_succ]
                                      refine wpAnyB_takeP (i := 14) (some 158) (Op.fieldAddr 42 (Operand.tmp 11) 3) 0 (v := ?_) ⟨_, rfl, rfl, rfl, rfl, rfl⟩ (by kernel_rfl) (by kernel_rfl) (by kernel_rfl) (by kernel_rfl) (fun _ _ _ h => h) (fun _ => hS) (fun w' => ?_) ?_
                                      rotate_left
                                      · unfold bareOp
                                        go_simp
                                        try with_reducible rfl
                                      simp only [Act.put, List.setIfInBounds_toArray, List.set_cons_zero, List.set_cons_succ]
                                      refine wpAnyB_takeP (i := 15) (some 159) (Op.indexAddr 39 (Operand.tmp 158) (Operand.tmp 157)) 0 (v := ?_) ⟨_, rfl, rfl, rfl, rfl, rfl⟩ (by kernel_rfl) (by kernel_rfl) (by kernel_rfl) (by kernel_rfl) (fun _ _ _ h => h) (fun _ => hS) (fun w' => ?_) ?_
                                      rotate_left
                                      · unfold bareOp
                                        go_simp
                                        try with_reducible rfl
                                      simp only [Act.put, List.setIfInBounds_toArray, List.set_cons_zero, List.set_cons_succ]
                                      refine wpAnyB_take (i := 16) (some 160) (Op.load 22 (Operand.tmp 159)) 22 (v := ?_) ⟨_, rfl, rfl, rfl, rfl, rfl⟩ (by kernel_rfl) (by kernel_rfl) (by kernel_rfl) [17, 18, 19, 20, 21, 22] (by kernel_rfl) (fun _ _ _ h => h) hS (fun w' hSw => ?_) ?_
                                      rotate_left
                                      · obtain ⟨⟨s0_, s1_, s2_⟩, ⟨a0_, a1_, a2_, a3_, a4_, a5_, a6_, a7_⟩, ⟨b0_, b1_, b2_, b3_, b4_, b5_, b6_, b7_⟩⟩ := hSw
                                        unfold bareOp
                                        go_simp
                                        try with_reducible rfl
                                      simp only [Act.put, List.setIfInBounds_toArray, List.set_cons_zero, List.set_cons_succ]
                                      refine wpAnyB_only (i := 17) (some 161) (Op.call { callee := Callee.value (Operand.func 10), args := #[Operand.tmp 144, Operand.tmp 148, Operand.tmp 152, Operand.tmp 156, Operand.tmp 160], argTypes := #[24, 22, 22, 22, 22] }) 33 ⟨_, rfl, rfl, rfl, rfl, rfl⟩ (by kernel_rfl) (fun K hK => ?_)
                                      unfold bareOp
                                      go_wp2_with (go_at_call 10; refine (sextract_any _ hP hQ hG hc1 hz1 hC1 hZ1 HX.out).mono ?_; rintro e w5 ⟨rfl, hb5⟩)
                                      replace F_g := Lib.hid (F_g.out.keep hb5)
                                      replace F_s := Lib.hid (F_s.out.keep hb5)
                                      replace F_p := Lib.hid (F_p.out.keep hb5)
                                      replace F_q := Lib.hid (F_q.out.keep hb5)
                                      replace HBW := Lib.hid (HBW.out.trans (hb5.mono HBW.out.size))
                                      clear hb5
                                      replace hS := And.intro F_g.out.s (And.intro F_p.out.s F_q.out.s)
                                      refine hK.out _ _ (fun _ => hS) ?_
                                      clear hK K
                                      try simp only [Act.put, List.setIfInBounds_toArray, List.set_cons_zero, List.set_cons_succ]
                                      refine wpAnyB_takeP (i := 18) (some 143) (Op.move (Operand.tmp 161)) 33 (v := ?_) ⟨_, rfl, rfl, rfl, rfl, rfl⟩ (by kernel_rfl) (by kernel_rfl) (by kernel_rfl) (by kernel_rfl) (fun _ _ _ h => h) (fun _ => hS) (fun w' => ?_) ?_
                                      rotate_left
                                      · unfold bareOp
                                        go_simp
                                        try with_reducible rfl
                                      simp only [Act.put, List.setIfInBounds_toArray, List.set_cons_zero, List.set_cons_succ]
                                      refine wpAnyB_takeP (i := 19) (some 162) (Op.extract (Operand.tmp 143) 0) 22 (v := ?_) ⟨_, rfl, rfl, rfl, rfl, rfl⟩ (by kernel_rfl) (by kernel_rfl) (by kernel_rfl) (by kernel_rfl) (fun _ _ _ h => h) (fun _ => hS) (fun w' => ?_) ?_
                                      rotate_left
                                      · unfold bareOp
                                        go_simp
                                        try with_reducible rfl
                                      simp only [Act.put, List.setIfInBounds_toArray, List.set_cons_zero, List.set_cons_succ]
                                      refine wpAnyB_takeP (i := 20) (some 163) (Op.extract (Operand.tmp 143) 1) 26 (v := ?_) ⟨_, rfl, rfl, rfl, rfl, rfl⟩ (by kernel_rfl) (by kernel_rfl) (by kernel_rfl) (by kernel_rfl) (fun _ _ _ h => h) (fun _ => hS) (fun w' => ?_) ?_
                                      rotate_left
                                      · unfold bareOp
                                        go_simp
                                        try with_reducible rfl
                                      simp only [Act.put, List.setIfInBounds_toArray, List.set_cons_zero, List.set_cons_succ]
                                      refine wpAnyB_takeP (i := 21) (some 24) (Op.assign (Operand.tmp 162)) 22 (v := ?_) ⟨_, rfl, rfl, rfl, rfl, rfl⟩ (by kernel_rfl) (by kernel_rfl) (by kernel_rfl) (by kernel_rfl) (fun _ _ _ h => h) (fun _ => hS) (fun w' => ?_) ?_
                                      rotate_left
                                      · unfold bareOp
                                        go_simp
                                        try with_reducible rfl
                                      simp only [Act.put, List.setIfInBounds_toArray, List.set_cons_zero, List.set_cons_succ]
                                      refine wpAnyB_only (i := 22) (some 25) (Op.assign (Operand.tmp 163)) 26 ⟨_, rfl, rfl, rfl, rfl, rfl⟩ (by kernel_rfl) (fun K hK => ?_)
                                      unfold bareOp
                                      go_wp2_with fail
                                      refine hK.out _ _ (fun h => absurd (h.symm.trans (by kernel_rfl : _ = true)) (by decide)) ?_
                                      clear hK K
                                      try simp only [Act.put, List.setIfInBounds_toArray, List.set_cons_zero, List.set_cons_succ]
                                      refine wpAnyB_done (by kernel_rfl) ?_ _
                                      clear hS
                                      obtain ⟨q0, q1, q2, -⟩ := id F_g.out
                                      obtain ⟨q3, q4, q5, q6, -⟩ := id F_s.out
                                      obtain ⟨p0, p1, p2_, p3_, p4_, p5_, p6_, p7_, -⟩ := id F_p.out
                                      obtain ⟨t0, t1, t2, t3, t4, t5, t6, t7, -⟩ := id F_q.out
                                      go_wp2_with fail
                                      clear q0 q1 q2 q3 q4 q5 q6 p0 p1 p2_ p3_ p4_ p5_ p6_ p7_ t0 t1 t2 t3 t4 t5 t6 t7
                                      refine (encrypt_gen _ hP hQ hG hy i0 x0 HEN.out).mono ?_
                                      rintro e w6 ⟨rfl, hb6⟩
                                      replace F_g := Lib.hid (F_g.out.keep hb6)
                                      replace F_s := Lib.hid (F_s.out.keep hb6)
                                      replace F_p := Lib.hid (F_p.out.keep hb6)
                                      replace F_q := Lib.hid (F_q.out.keep hb6)
                                      replace HBW := Lib.hid (HBW.out.trans (hb6.mono HBW.out.size))
                                      clear hb6
                                      have hls := F_s.out.lt
                                      obtain ⟨q0, q1, q2, -⟩ := id F_g.out
                                      obtain ⟨q3, q4, q5, q6, -⟩ := id F_s.out
                                      obtain ⟨p0, p1, p2_, p3_, p4_, p5_, p6_, p7_, -⟩ := id F_p.out
                                      obtain ⟨t0, t1, t2, t3, t4, t5, t6, t7, -⟩ := id F_q.out
                                      go_wp2_with fail
                                      go_ret
                                      exact ⟨rfl, HBW.out.alloc HBW.out.size _⟩
                                    case pos =>
                                      exact (HXY.out HC0.out hci).elim
                                  case inr.inr => exact (HK.out.x1 (by omega)).elim
                  case pos =>
                    have hcd : (cc == dd) = true := by simpa using hne
                    clear hne
                    have F_g := Lib.hid (show Boxed ((((w.alloc (.cells #[.int .u64 P, .int .u64 Q, .int .u64 G] 24)).alloc (.cells #[.int .u64 a, .int .u64 b] 38)).alloc (.cells #[.int .u64 r0, .int .u64 r1, .int .u64 s0, .int .u64 s1, .int .u64 c0, .int .u64 c1, .int .u64 z0, .int .u64 z1] 42)).alloc (.cells #[.int .u64 r0, .int .u64 r1, .int .u64 s0, .int .u64 s1, .int .u64 C0, .int .u64 C1, .int .u64 Z0, .int .u64 Z1] 42)) w.heap.size P Q G from (((Boxed.at _ P Q G _ w.heap.size rfl).alloc _).alloc _).alloc _)
                    have F_s := Lib.hid (show Pair ((((w.alloc (.cells #[.int .u64 P, .int .u64 Q, .int .u64 G] 24)).alloc (.cells #[.int .u64 a, .int .u64 b] 38)).alloc (.cells #[.int .u64 r0, .int .u64 r1, .int .u64 s0, .int .u64 s1, .int .u64 c0, .int .u64 c1, .int .u64 z0, .int .u64 z1] 42)).alloc (.cells #[.int .u64 r0, .int .u64 r1, .int .u64 s0, .int .u64 s1, .int .u64 C0, .int .u64 C1, .int .u64 Z0, .int .u64 Z1] 42)) (w.heap.size + 1) a b from ((Pair.at _ a b _ (w.heap.size + 1) (by simp)).alloc _).alloc _)
                    have F_p := Lib.hid (show Eight ((((w.alloc (.cells #[.int .u64 P, .int .u64 Q, .int .u64 G] 24)).alloc (.cells #[.int .u64 a, .int .u64 b] 38)).alloc (.cells #[.int .u64 r0, .int .u64 r1, .int .u64 s0, .int .u64 s1, .int .u64 c0, .int .u64 c1, .int .u64 z0, .int .u64 z1] 42)).alloc (.cells #[.int .u64 r0, .int .u64 r1, .int .u64 s0, .int .u64 s1, .int .u64 C0, .int .u64 C1, .int .u64 Z0, .int .u64 Z1] 42)) (w.heap.size + 1 + 1) r0 r1 s0 s1 c0 c1 z0 z1 from (Eight.at _ r0 r1 s0 s1 c0 c1 z0 z1 _ (w.heap.size + 1 + 1) (by simp)).alloc _)
                    have F_q := Lib.hid (show Eight ((((w.alloc (.cells #[.int .u64 P, .int .u64 Q, .int .u64 G] 24)).alloc (.cells #[.int .u64 a, .int .u64 b] 38)).alloc (.cells #[.int .u64 r0, .int .u64 r1, .int .u64 s0, .int .u64 s1, .int .u64 c0, .int .u64 c1, .int .u64 z0, .int .u64 z1] 42)).alloc (.cells #[.int .u64 r0, .int .u64 r1, .int .u64 s0, .int .u64 s1, .int .u64 C0, .int .u64 C1, .int .u64 Z0, .int .u64 Z1] 42)) (w.heap.size + 1 + 1 + 1) r0 r1 s0 s1 C0 C1 Z0 Z1 from Eight.at _ r0 r1 s0 s1 C0 C1 Z0 Z1 _ (w.heap.size + 1 + 1 + 1) (by simp))
                    have HBW := Lib.hid (show Below w.heap.size w ((((w.alloc (.cells #[.int .u64 P, .int .u64 Q, .int .u64 G] 24)).alloc (.cells #[.int .u64 a, .int .u64 b] 38)).alloc (.cells #[.int .u64 r0, .int .u64 r1, .int .u64 s0, .int .u64 s1, .int .u64 c0, .int .u64 c1, .int .u64 z0, .int .u64 z1] 42)).alloc (.cells #[.int .u64 r0, .int .u64 r1, .int .u64 s0, .int .u64 s1, .int .u64 C0, .int .u64 C1, .int .u64 Z0, .int .u64 Z1] 42)) from ((((Below.refl _ _).alloc (by simp <;> omega) _).alloc (by simp <;> omega) _).alloc (by simp <;> omega) _).alloc (by simp <;> omega) _)
                    go_enter Try.func5, Try.ntmps5
                    obtain ⟨q0, q1, q2, -⟩ := id F_g.out
                    obtain ⟨q3, q4, q5, q6, -⟩ := id F_s.out
                    obtain ⟨p0, p1, p2_, p3_, p4_, p5_, p6_, p7_, -⟩ := id F_p.out
                    obtain ⟨t0, t1, t2, t3, t4, t5, t6, t7, -⟩ := id F_q.out
                    go_wp2_with fail
                    clear q0 q1 q2 q3 q4 q5 q6 p0 p1 p2_ p3_ p4_ p5_ p6_ p7_ t0 t1 t2 t3 t4 t5 t6 t7
                    refine (alive_yes _).mono ?_
                    rintro e w1 ⟨rfl, hb1⟩
                    replace F_g := Lib.hid (F_g.out.keep hb1)
                    replace F_s := Lib.hid (F_s.out.keep hb1)
                    replace F_p := Lib.hid (F_p.out.keep hb1)
                    replace F_q := Lib.hid (F_q.out.keep hb1)
                    replace HBW := Lib.hid (HBW.out.trans (hb1.mono HBW.out.size))
                    clear hb1
                    obtain ⟨q0, q1, q2, -⟩ := id F_g.out
                    obtain ⟨q3, q4, q5, q6, -⟩ := id F_s.out
                    obtain ⟨p0, p1, p2_, p3_, p4_, p5_, p6_, p7_, -⟩ := id F_p.out
                    obtain ⟨t0, t1, t2, t3, t4, t5, t6, t7, -⟩ := id F_q.out
                    go_wp2_with fail
                    clear q0 q1 q2 q3 q4 q5 q6 p0 p1 p2_ p3_ p4_ p5_ p6_ p7_ t0 t1 t2 t3 t4 t5 t6 t7
                    refine (evalid_gen _ hP hQ hG ha hb HVS.out).mono ?_
                    rintro e w2 ⟨rfl, hb2⟩
                    replace F_g := Lib.hid (F_g.out.keep hb2)
                    replace F_s := Lib.hid (F_s.out.keep hb2)
                    replace F_p := Lib.hid (F_p.out.keep hb2)
                    replace F_q := Lib.hid (F_q.out.keep hb2)
                    replace HBW := Lib.hid (HBW.out.trans (hb2.mono HBW.out.size))
                    clear hb2
                    obtain ⟨q0, q1, q2, -⟩ := id F_g.out
                    obtain ⟨q3, q4, q5, q6, -⟩ := id F_s.out
                    obtain ⟨p0, p1, p2_, p3_, p4_, p5_, p6_, p7_, -⟩ := id F_p.out
                    obtain ⟨t0, t1, t2, t3, t4, t5, t6, t7, -⟩ := id F_q.out
                    go_wp2_with fail
                    clear q0 q1 q2 q3 q4 q5 q6 p0 p1 p2_ p3_ p4_ p5_ p6_ p7_ t0 t1 t2 t3 t4 t5 t6 t7
                    refine (gcheck_any P Q G 0 _ hP hQ hG HV.out).mono ?_
                    rintro e w3 ⟨rfl, hb3⟩
                    replace F_g := Lib.hid (F_g.out.keep hb3)
                    replace F_s := Lib.hid (F_s.out.keep hb3)
                    replace F_p := Lib.hid (F_p.out.keep hb3)
                    replace F_q := Lib.hid (F_q.out.keep hb3)
                    replace HBW := Lib.hid (HBW.out.trans (hb3.mono HBW.out.size))
                    clear hb3
                    obtain ⟨q0, q1, q2, -⟩ := id F_g.out
                    obtain ⟨q3, q4, q5, q6, -⟩ := id F_s.out
                    obtain ⟨p0, p1, p2_, p3_, p4_, p5_, p6_, p7_, -⟩ := id F_p.out
                    obtain ⟨t0, t1, t2, t3, t4, t5, t6, t7, -⟩ := id F_q.out
                    go_wp2_with fail
                    clear q0 q1 q2 q3 q4 q5 q6 p0 p1 p2_ p3_ p4_ p5_ p6_ p7_ t0 t1 t2 t3 t4 t5 t6 t7
                    refine (member_is (r := true) _ hP hQ hG hy (by simp [HM_y.out, HH.out])).mono ?_
                    rintro e w4 ⟨rfl, hb4⟩
                    replace F_g := Lib.hid (F_g.out.keep hb4)
                    replace F_s := Lib.hid (F_s.out.keep hb4)
                    replace F_p := Lib.hid (F_p.out.keep hb4)
                    replace F_q := Lib.hid (F_q.out.keep hb4)
                    replace HBW := Lib.hid (HBW.out.trans (hb4.mono HBW.out.size))
                    clear hb4
                    obtain ⟨q0, q1, q2, -⟩ := id F_g.out
                    obtain ⟨q3, q4, q5, q6, -⟩ := id F_s.out
                    obtain ⟨p0, p1, p2_, p3_, p4_, p5_, p6_, p7_, -⟩ := id F_p.out
                    obtain ⟨t0, t1, t2, t3, t4, t5, t6, t7, -⟩ := id F_q.out
                    go_wp2_with fail
                    go_ret
                    exact ⟨rfl, HBW.out⟩


set_option maxRecDepth 100000 in
set_option maxHeartbeats 2000000 in
theorem lifted (os : Os) (started : os.Started) (H : Type) (enc : TypeId × Value → H) :
    ReturnsInHanded {} Try.checked os 5 .any (Rows.proofBitSoundSpec.pre6 enc Try.prog Try.f5 Rows.proofBitSoundRow.domain false) (Rows.proofBitSoundSpec.post enc Try.prog Try.f5 false true false false) := by
  refine returnsInHanded_of_change (C := Try.checked) own started (by kernel_rfl) Try.func5
    (ChangeSpec.witness6 (enc := enc) (C := Try.checked) false ⟨#[], #[.agg #[.int .u64 0, .int .u64 0, .int .u64 0], .int .u64 0, .agg #[.int .u64 0, .int .u64 0], .agg #[.int .u64 0, .int .u64 0, .int .u64 0, .int .u64 0, .int .u64 0, .int .u64 0, .int .u64 0, .int .u64 0], .agg #[.int .u64 0, .int .u64 0, .int .u64 0, .int .u64 0, .int .u64 0, .int .u64 0, .int .u64 0, .int .u64 0], .int .u64 0, .int .u64 0], []⟩ 8 (by kernel_rfl) (by kernel_rfl) (by kernel_rfl) (by kernel_rfl)) ?_
  intro W base args ds gs before hval0 hW _ _
  have hval : ∀ (j : Nat) t v, Try.f5.params[j]? = some t → args[j]? = some v → Value.okWide Try.prog W .any base t v := hval0
  have hW' := hW
  obtain ⟨p, q, hA0, hV, rfl, hfz, hnd⟩ := hW
  have hA : DataW.TrodAll enc Try.prog W 0 (fun _ => true) true Try.f5.params.toList args.toList ds p := hA0
  rw [Try.params5] at hA hval
  have hK := hA
  obtain ⟨v0, vs0, d0, ds0, p0, q0, hargs, rfl, rfl, h0, r0⟩ := trodAll_cons hA
  obtain ⟨v1, vs1, d1, ds1, p1, q1, rfl, rfl, rfl, h1, r1⟩ := trodAll_cons r0
  obtain ⟨v2, vs2, d2, ds2, p2, q2, rfl, rfl, rfl, h2, r2⟩ := trodAll_cons r1
  obtain ⟨v3, vs3, d3, ds3, p3, q3, rfl, rfl, rfl, h3, r3⟩ := trodAll_cons r2
  obtain ⟨v4, vs4, d4, ds4, p4, q4, rfl, rfl, rfl, h4, r4⟩ := trodAll_cons r3
  obtain ⟨v5, vs5, d5, ds5, p5, q5, rfl, rfl, rfl, h5, r5⟩ := trodAll_cons r4
  obtain ⟨v6, vs6, d6, ds6, p6, q6, rfl, rfl, rfl, h6, r6⟩ := trodAll_cons r5
  obtain ⟨rfl, rfl, rfl⟩ := trodAll_nil r6
  obtain rfl : args = #[v0, v1, v2, v3, v4, v5, v6] := by cases args; simp_all
  obtain ⟨rfl, rfl⟩ := trodVars_none hV
  obtain ⟨P, Q, G, rfl, uP, uQ, uG⟩ := open_group (hval 0 24 v0 rfl rfl) h0
  obtain ⟨y, rfl, uy⟩ := open_u64 (hval 1 22 v1 rfl rfl) h1
  obtain ⟨a, b, rfl, ua, ub⟩ := open_sealed (hval 2 38 v2 rfl rfl) h2
  obtain ⟨n_r0, n_r1, n_s0, n_s1, n_c0, n_c1, n_z0, n_z1, rfl, u_r0, u_r1, u_s0, u_s1, u_c0, u_c1, u_z0, u_z1⟩ := open_bit (hval 3 42 v3 rfl rfl) h3
  obtain ⟨n_R0, n_R1, n_S0, n_S1, n_C0, n_C1, n_Z0, n_Z1, rfl, u_R0, u_R1, u_S0, u_S1, u_C0, u_C1, u_Z0, u_Z1⟩ := open_bit (hval 4 42 v4 rfl rfl) h4
  obtain ⟨cc, rfl, ucc⟩ := open_u64 (hval 5 22 v5 rfl rfl) h5
  obtain ⟨dd, rfl, udd⟩ := open_u64 (hval 6 22 v6 rfl rfl) h6
  clear hA0 hval0
  refine (walk P Q G y a b n_r0 n_r1 n_s0 n_s1 n_c0 n_c1 n_z0 n_z1 n_R0 n_R1 n_S0 n_S1 n_C0 n_C1 n_Z0 n_Z1 cc dd W uP uQ uG uy ua ub u_r0 u_r1 u_s0 u_s1 u_c0 u_c1 u_z0 u_z1 u_R0 u_R1 u_S0 u_S1 u_C0 u_C1 u_Z0 u_Z1 ucc udd).mono fun e W' ⟨he, bel⟩ => ?_
  subst he
  exact ⟨_, rfl, _, _, _, [], _, [], hW', trodAll_mk1 (shut_bool Try.underlying4 _), trodAll_stays laidOut (by kernel_rfl) hK bel, rfl, bel.frame _, fun h => by cases h⟩

theorem over : Rows.proofBitSoundRow.holds Try.pinned (OpenSpec.ofChange Rows.proofBitSoundSpec) :=
  OpenClaim.holds_of_wide 5 Try.f5 rfl rfl rfl rfl rfl rfl rfl ⟨rfl, rfl, rfl, rfl, rfl⟩ rfl rfl rfl rfl rfl (by kernel_rfl) Try.func5 (by kernel_rfl)
    (of_decide_eq_true (by kernel_rfl)) (by unfold Func.isWrapper; first | (rw [if_pos (by decide +kernel)]; kernel_rfl) | (rw [if_neg (by decide +kernel)]; exact ⟨rfl, rfl⟩))
    (fun os started H enc _ => lifted os started H enc)

theorem proved : Rows.ProofBitSoundSaid := over
#print axioms proved
end Go.Proofs.Ytmcpfinnhgbcpaa.lawBitSound
