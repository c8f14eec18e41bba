/- ProofSimulates: the statement: for every input the law returns true, and the arguments read as before. -/
import Derived.Test.YtmcpfinnhgbcpaaSimA
import Derived.Test.YtmcpfinnhgbcpaaOpenP
import Derived.Test.YtmcpfinnhgbcpaaRows
namespace Go.Proofs.Ytmcpfinnhgbcpaa.lawSim
open Go.ChangeShapes Go.WideShapes Go.ChangeAt Go.RowKit Num
set_option linter.unusedSimpArgs false
set_option linter.unusedVariables false


/-- What holds behind k rounds: k pairs R, S are written. -/
structure SimIn (w wr : World) (B : Nat) (P Q G a b r0 r1 s0 s1 c0 c1 z0 z1 : Int) (k : Nat) : Prop where
  box : Boxed wr w.heap.size P Q G
  pr : Pair wr (w.heap.size + 1) a b
  pc : Pair wr (w.heap.size + 1 + 1) c0 c1
  pz : Pair wr (w.heap.size + 1 + 1 + 1) z0 z1
  bel : Below w.heap.size w wr
  st : (k = 0 ∧ EightF wr B 0 0 0 0 c0 c1 z0 z1) ∨ (k = 1 ∧ EightF wr B r0 0 s0 0 c0 c1 z0 z1) ∨ (k = 2 ∧ EightF wr B r0 r1 s0 s1 c0 c1 z0 z1)
set_option maxRecDepth 100000 in
set_option maxHeartbeats 8000000 in
theorem walk (P Q G y a b c0 c1 z0 z1 : Int) (w : World) (uP : U64 P) (uQ : U64 Q) (uG : U64 G) (uy : U64 y) (ua : U64 a) (ub : U64 b) (uc0 : U64 c0) (uc1 : U64 c1) (uz0 : U64 z0) (uz1 : U64 z1) :
    Calls Try.prog 4 #[.agg #[.int .u64 P, .int .u64 Q, .int .u64 G], .int .u64 y, .agg #[.int .u64 a, .int .u64 b], .agg #[.int .u64 c0, .int .u64 c1], .agg #[.int .u64 z0, .int .u64 z1]] w fun e w' => e = .returned (.bool true) ∧ Below w.heap.size w w' := by
  have hP := uP.1
  have hQ := uQ.1
  have hG := uG.1
  have hy := uy.1
  have ha := ua.1
  have hb := ub.1
  have hc0 := uc0.1
  have hc1 := uc1.1
  have hz0 := uz0.1
  have hz1 := uz1.1
  by_cases hv : Valid P Q G
  case neg =>
    obtain ⟨r_, e_, hvs⟩ := ValS.exists P Q G a b
    have HVS := Lib.hid hvs
    clear hvs
    have HV := Lib.hid (show ValidS P Q G 300 from .inr ⟨hv, rfl⟩)
    clear hv
    have F_g := Lib.hid (show Boxed ((((w.alloc (.cells #[.int .u64 P, .int .u64 Q, .int .u64 G] 24)).alloc (.cells #[.int .u64 a, .int .u64 b] 38)).alloc (.cells #[.int .u64 c0, .int .u64 c1] 39)).alloc (.cells #[.int .u64 z0, .int .u64 z1] 39)) (w.heap.size) P Q G from (((Boxed.at _ P Q G _ (w.heap.size) (by simp)).alloc _).alloc _).alloc _)
    have F_s := Lib.hid (show Pair ((((w.alloc (.cells #[.int .u64 P, .int .u64 Q, .int .u64 G] 24)).alloc (.cells #[.int .u64 a, .int .u64 b] 38)).alloc (.cells #[.int .u64 c0, .int .u64 c1] 39)).alloc (.cells #[.int .u64 z0, .int .u64 z1] 39)) (w.heap.size + 1) a b from ((Pair.at _ a b _ (w.heap.size + 1) (by simp)).alloc _).alloc _)
    have F_c := Lib.hid (show Pair ((((w.alloc (.cells #[.int .u64 P, .int .u64 Q, .int .u64 G] 24)).alloc (.cells #[.int .u64 a, .int .u64 b] 38)).alloc (.cells #[.int .u64 c0, .int .u64 c1] 39)).alloc (.cells #[.int .u64 z0, .int .u64 z1] 39)) (w.heap.size + 1 + 1) c0 c1 from (Pair.at _ c0 c1 _ (w.heap.size + 1 + 1) (by simp)).alloc _)
    have F_z := Lib.hid (show Pair ((((w.alloc (.cells #[.int .u64 P, .int .u64 Q, .int .u64 G] 24)).alloc (.cells #[.int .u64 a, .int .u64 b] 38)).alloc (.cells #[.int .u64 c0, .int .u64 c1] 39)).alloc (.cells #[.int .u64 z0, .int .u64 z1] 39)) (w.heap.size + 1 + 1 + 1) z0 z1 from Pair.at _ z0 z1 _ (w.heap.size + 1 + 1 + 1) (by simp))
    have HBW := Lib.hid (show Below w.heap.size w ((((w.alloc (.cells #[.int .u64 P, .int .u64 Q, .int .u64 G] 24)).alloc (.cells #[.int .u64 a, .int .u64 b] 38)).alloc (.cells #[.int .u64 c0, .int .u64 c1] 39)).alloc (.cells #[.int .u64 z0, .int .u64 z1] 39)) from ((((Below.refl _ _).alloc (by simp <;> omega) _).alloc (by simp <;> omega) _).alloc (by simp <;> omega) _).alloc (by simp <;> omega) _)
    go_enter Try.func4, Try.ntmps4
    obtain ⟨x0a, x0b, x0c, -⟩ := id F_g.out
    obtain ⟨x1a, x1b, x1c, x1d, -⟩ := id F_s.out
    obtain ⟨x2a, x2b, x2c, x2d, -⟩ := id F_c.out
    obtain ⟨x3a, x3b, x3c, x3d, -⟩ := id F_z.out
    go_wp2_with fail
    clear x0a x0b x0c x1a x1b x1c x1d x2a x2b x2c x2d x3a x3b x3c x3d
    refine (alive_yes _).mono ?_
    rintro e w1 ⟨rfl, hb1⟩
    replace F_g := Lib.hid (F_g.out.keep hb1)
    replace F_s := Lib.hid (F_s.out.keep hb1)
    replace F_c := Lib.hid (F_c.out.keep hb1)
    replace F_z := Lib.hid (F_z.out.keep hb1)
    replace HBW := Lib.hid (HBW.out.trans (hb1.mono HBW.out.size))
    clear hb1
    obtain ⟨x0a, x0b, x0c, -⟩ := id F_g.out
    obtain ⟨x1a, x1b, x1c, x1d, -⟩ := id F_s.out
    obtain ⟨x2a, x2b, x2c, x2d, -⟩ := id F_c.out
    obtain ⟨x3a, x3b, x3c, x3d, -⟩ := id F_z.out
    go_wp2_with fail
    clear x0a x0b x0c x1a x1b x1c x1d x2a x2b x2c x2d x3a x3b x3c x3d
    refine (evalid_gen _ hP hQ hG ha hb HVS.out).mono ?_
    rintro e w2 ⟨rfl, hb2⟩
    replace F_g := Lib.hid (F_g.out.keep hb2)
    replace F_s := Lib.hid (F_s.out.keep hb2)
    replace F_c := Lib.hid (F_c.out.keep hb2)
    replace F_z := Lib.hid (F_z.out.keep hb2)
    replace HBW := Lib.hid (HBW.out.trans (hb2.mono HBW.out.size))
    clear hb2
    obtain ⟨x0a, x0b, x0c, -⟩ := id F_g.out
    obtain ⟨x1a, x1b, x1c, x1d, -⟩ := id F_s.out
    obtain ⟨x2a, x2b, x2c, x2d, -⟩ := id F_c.out
    obtain ⟨x3a, x3b, x3c, x3d, -⟩ := id F_z.out
    go_wp2_with fail
    clear x0a x0b x0c x1a x1b x1c x1d x2a x2b x2c x2d x3a x3b x3c x3d
    refine (gcheck_any P Q G 300 _ hP hQ hG HV.out).mono ?_
    rintro e w3 ⟨rfl, hb3⟩
    replace F_g := Lib.hid (F_g.out.keep hb3)
    replace F_s := Lib.hid (F_s.out.keep hb3)
    replace F_c := Lib.hid (F_c.out.keep hb3)
    replace F_z := Lib.hid (F_z.out.keep hb3)
    replace HBW := Lib.hid (HBW.out.trans (hb3.mono HBW.out.size))
    clear hb3
    obtain ⟨x0a, x0b, x0c, -⟩ := id F_g.out
    obtain ⟨x1a, x1b, x1c, x1d, -⟩ := id F_s.out
    obtain ⟨x2a, x2b, x2c, x2d, -⟩ := id F_c.out
    obtain ⟨x3a, x3b, x3c, x3d, -⟩ := id F_z.out
    go_wp2_with fail
    go_ret
    exact ⟨rfl, HBW.out⟩
  case pos =>
    have HV := Lib.hid (show ValidS P Q G 0 from .inl ⟨hv, rfl⟩)
    have HG := Lib.hid hv.grp
    have HH := Lib.hid hv.has
    obtain ⟨p5, p3, _, pq, g2, gP⟩ := id hv.1
    have q3 : Q < 1073741824 := by omega
    clear hv pq
    obtain ⟨r_, e_, hvs⟩ := ValS.exists P Q G a b
    by_cases my : Mem P Q y
    case neg =>
      have HM_y := Lib.hid my
      clear my
      have HVS := Lib.hid hvs
      clear hvs
      have F_g := Lib.hid (show Boxed ((((w.alloc (.cells #[.int .u64 P, .int .u64 Q, .int .u64 G] 24)).alloc (.cells #[.int .u64 a, .int .u64 b] 38)).alloc (.cells #[.int .u64 c0, .int .u64 c1] 39)).alloc (.cells #[.int .u64 z0, .int .u64 z1] 39)) (w.heap.size) P Q G from (((Boxed.at _ P Q G _ (w.heap.size) (by simp)).alloc _).alloc _).alloc _)
      have F_s := Lib.hid (show Pair ((((w.alloc (.cells #[.int .u64 P, .int .u64 Q, .int .u64 G] 24)).alloc (.cells #[.int .u64 a, .int .u64 b] 38)).alloc (.cells #[.int .u64 c0, .int .u64 c1] 39)).alloc (.cells #[.int .u64 z0, .int .u64 z1] 39)) (w.heap.size + 1) a b from ((Pair.at _ a b _ (w.heap.size + 1) (by simp)).alloc _).alloc _)
      have F_c := Lib.hid (show Pair ((((w.alloc (.cells #[.int .u64 P, .int .u64 Q, .int .u64 G] 24)).alloc (.cells #[.int .u64 a, .int .u64 b] 38)).alloc (.cells #[.int .u64 c0, .int .u64 c1] 39)).alloc (.cells #[.int .u64 z0, .int .u64 z1] 39)) (w.heap.size + 1 + 1) c0 c1 from (Pair.at _ c0 c1 _ (w.heap.size + 1 + 1) (by simp)).alloc _)
      have F_z := Lib.hid (show Pair ((((w.alloc (.cells #[.int .u64 P, .int .u64 Q, .int .u64 G] 24)).alloc (.cells #[.int .u64 a, .int .u64 b] 38)).alloc (.cells #[.int .u64 c0, .int .u64 c1] 39)).alloc (.cells #[.int .u64 z0, .int .u64 z1] 39)) (w.heap.size + 1 + 1 + 1) z0 z1 from Pair.at _ z0 z1 _ (w.heap.size + 1 + 1 + 1) (by simp))
      have HBW := Lib.hid (show Below w.heap.size w ((((w.alloc (.cells #[.int .u64 P, .int .u64 Q, .int .u64 G] 24)).alloc (.cells #[.int .u64 a, .int .u64 b] 38)).alloc (.cells #[.int .u64 c0, .int .u64 c1] 39)).alloc (.cells #[.int .u64 z0, .int .u64 z1] 39)) from ((((Below.refl _ _).alloc (by simp <;> omega) _).alloc (by simp <;> omega) _).alloc (by simp <;> omega) _).alloc (by simp <;> omega) _)
      go_enter Try.func4, Try.ntmps4
      obtain ⟨x0a, x0b, x0c, -⟩ := id F_g.out
      obtain ⟨x1a, x1b, x1c, x1d, -⟩ := id F_s.out
      obtain ⟨x2a, x2b, x2c, x2d, -⟩ := id F_c.out
      obtain ⟨x3a, x3b, x3c, x3d, -⟩ := id F_z.out
      go_wp2_with fail
      clear x0a x0b x0c x1a x1b x1c x1d x2a x2b x2c x2d x3a x3b x3c x3d
      refine (alive_yes _).mono ?_
      rintro e w1 ⟨rfl, hb1⟩
      replace F_g := Lib.hid (F_g.out.keep hb1)
      replace F_s := Lib.hid (F_s.out.keep hb1)
      replace F_c := Lib.hid (F_c.out.keep hb1)
      replace F_z := Lib.hid (F_z.out.keep hb1)
      replace HBW := Lib.hid (HBW.out.trans (hb1.mono HBW.out.size))
      clear hb1
      obtain ⟨x0a, x0b, x0c, -⟩ := id F_g.out
      obtain ⟨x1a, x1b, x1c, x1d, -⟩ := id F_s.out
      obtain ⟨x2a, x2b, x2c, x2d, -⟩ := id F_c.out
      obtain ⟨x3a, x3b, x3c, x3d, -⟩ := id F_z.out
      go_wp2_with fail
      clear x0a x0b x0c x1a x1b x1c x1d x2a x2b x2c x2d x3a x3b x3c x3d
      refine (evalid_gen _ hP hQ hG ha hb HVS.out).mono ?_
      rintro e w2 ⟨rfl, hb2⟩
      replace F_g := Lib.hid (F_g.out.keep hb2)
      replace F_s := Lib.hid (F_s.out.keep hb2)
      replace F_c := Lib.hid (F_c.out.keep hb2)
      replace F_z := Lib.hid (F_z.out.keep hb2)
      replace HBW := Lib.hid (HBW.out.trans (hb2.mono HBW.out.size))
      clear hb2
      obtain ⟨x0a, x0b, x0c, -⟩ := id F_g.out
      obtain ⟨x1a, x1b, x1c, x1d, -⟩ := id F_s.out
      obtain ⟨x2a, x2b, x2c, x2d, -⟩ := id F_c.out
      obtain ⟨x3a, x3b, x3c, x3d, -⟩ := id F_z.out
      go_wp2_with fail
      clear x0a x0b x0c x1a x1b x1c x1d x2a x2b x2c x2d x3a x3b x3c x3d
      refine (gcheck_any P Q G 0 _ hP hQ hG HV.out).mono ?_
      rintro e w3 ⟨rfl, hb3⟩
      replace F_g := Lib.hid (F_g.out.keep hb3)
      replace F_s := Lib.hid (F_s.out.keep hb3)
      replace F_c := Lib.hid (F_c.out.keep hb3)
      replace F_z := Lib.hid (F_z.out.keep hb3)
      replace HBW := Lib.hid (HBW.out.trans (hb3.mono HBW.out.size))
      clear hb3
      obtain ⟨x0a, x0b, x0c, -⟩ := id F_g.out
      obtain ⟨x1a, x1b, x1c, x1d, -⟩ := id F_s.out
      obtain ⟨x2a, x2b, x2c, x2d, -⟩ := id F_c.out
      obtain ⟨x3a, x3b, x3c, x3d, -⟩ := id F_z.out
      go_wp2_with fail
      clear x0a x0b x0c x1a x1b x1c x1d x2a x2b x2c x2d x3a x3b x3c x3d
      refine (member_is (r := false) _ hP hQ hG hy (by simp [HM_y.out])).mono ?_
      rintro e w4 ⟨rfl, hb4⟩
      replace F_g := Lib.hid (F_g.out.keep hb4)
      replace F_s := Lib.hid (F_s.out.keep hb4)
      replace F_c := Lib.hid (F_c.out.keep hb4)
      replace F_z := Lib.hid (F_z.out.keep hb4)
      replace HBW := Lib.hid (HBW.out.trans (hb4.mono HBW.out.size))
      clear hb4
      obtain ⟨x0a, x0b, x0c, -⟩ := id F_g.out
      obtain ⟨x1a, x1b, x1c, x1d, -⟩ := id F_s.out
      obtain ⟨x2a, x2b, x2c, x2d, -⟩ := id F_c.out
      obtain ⟨x3a, x3b, x3c, x3d, -⟩ := id F_z.out
      go_wp2_with fail
      go_ret
      exact ⟨rfl, HBW.out⟩
    case pos =>
      have HM_y := Lib.hid my
      by_cases he : e_ = 0
      case neg =>
        have hn1 : (e_ != 0) = true := by simpa using he
        clear he my
        have HVS := Lib.hid hvs
        clear hvs
        have F_g := Lib.hid (show Boxed ((((w.alloc (.cells #[.int .u64 P, .int .u64 Q, .int .u64 G] 24)).alloc (.cells #[.int .u64 a, .int .u64 b] 38)).alloc (.cells #[.int .u64 c0, .int .u64 c1] 39)).alloc (.cells #[.int .u64 z0, .int .u64 z1] 39)) (w.heap.size) P Q G from (((Boxed.at _ P Q G _ (w.heap.size) (by simp)).alloc _).alloc _).alloc _)
        have F_s := Lib.hid (show Pair ((((w.alloc (.cells #[.int .u64 P, .int .u64 Q, .int .u64 G] 24)).alloc (.cells #[.int .u64 a, .int .u64 b] 38)).alloc (.cells #[.int .u64 c0, .int .u64 c1] 39)).alloc (.cells #[.int .u64 z0, .int .u64 z1] 39)) (w.heap.size + 1) a b from ((Pair.at _ a b _ (w.heap.size + 1) (by simp)).alloc _).alloc _)
        have F_c := Lib.hid (show Pair ((((w.alloc (.cells #[.int .u64 P, .int .u64 Q, .int .u64 G] 24)).alloc (.cells #[.int .u64 a, .int .u64 b] 38)).alloc (.cells #[.int .u64 c0, .int .u64 c1] 39)).alloc (.cells #[.int .u64 z0, .int .u64 z1] 39)) (w.heap.size + 1 + 1) c0 c1 from (Pair.at _ c0 c1 _ (w.heap.size + 1 + 1) (by simp)).alloc _)
        have F_z := Lib.hid (show Pair ((((w.alloc (.cells #[.int .u64 P, .int .u64 Q, .int .u64 G] 24)).alloc (.cells #[.int .u64 a, .int .u64 b] 38)).alloc (.cells #[.int .u64 c0, .int .u64 c1] 39)).alloc (.cells #[.int .u64 z0, .int .u64 z1] 39)) (w.heap.size + 1 + 1 + 1) z0 z1 from Pair.at _ z0 z1 _ (w.heap.size + 1 + 1 + 1) (by simp))
        have HBW := Lib.hid (show Below w.heap.size w ((((w.alloc (.cells #[.int .u64 P, .int .u64 Q, .int .u64 G] 24)).alloc (.cells #[.int .u64 a, .int .u64 b] 38)).alloc (.cells #[.int .u64 c0, .int .u64 c1] 39)).alloc (.cells #[.int .u64 z0, .int .u64 z1] 39)) from ((((Below.refl _ _).alloc (by simp <;> omega) _).alloc (by simp <;> omega) _).alloc (by simp <;> omega) _).alloc (by simp <;> omega) _)
        go_enter Try.func4, Try.ntmps4
        obtain ⟨x0a, x0b, x0c, -⟩ := id F_g.out
        obtain ⟨x1a, x1b, x1c, x1d, -⟩ := id F_s.out
        obtain ⟨x2a, x2b, x2c, x2d, -⟩ := id F_c.out
        obtain ⟨x3a, x3b, x3c, x3d, -⟩ := id F_z.out
        go_wp2_with fail
        clear x0a x0b x0c x1a x1b x1c x1d x2a x2b x2c x2d x3a x3b x3c x3d
        refine (alive_yes _).mono ?_
        rintro e w1 ⟨rfl, hb1⟩
        replace F_g := Lib.hid (F_g.out.keep hb1)
        replace F_s := Lib.hid (F_s.out.keep hb1)
        replace F_c := Lib.hid (F_c.out.keep hb1)
        replace F_z := Lib.hid (F_z.out.keep hb1)
        replace HBW := Lib.hid (HBW.out.trans (hb1.mono HBW.out.size))
        clear hb1
        obtain ⟨x0a, x0b, x0c, -⟩ := id F_g.out
        obtain ⟨x1a, x1b, x1c, x1d, -⟩ := id F_s.out
        obtain ⟨x2a, x2b, x2c, x2d, -⟩ := id F_c.out
        obtain ⟨x3a, x3b, x3c, x3d, -⟩ := id F_z.out
        go_wp2_with fail
        clear x0a x0b x0c x1a x1b x1c x1d x2a x2b x2c x2d x3a x3b x3c x3d
        refine (evalid_gen _ hP hQ hG ha hb HVS.out).mono ?_
        rintro e w2 ⟨rfl, hb2⟩
        replace F_g := Lib.hid (F_g.out.keep hb2)
        replace F_s := Lib.hid (F_s.out.keep hb2)
        replace F_c := Lib.hid (F_c.out.keep hb2)
        replace F_z := Lib.hid (F_z.out.keep hb2)
        replace HBW := Lib.hid (HBW.out.trans (hb2.mono HBW.out.size))
        clear hb2
        obtain ⟨x0a, x0b, x0c, -⟩ := id F_g.out
        obtain ⟨x1a, x1b, x1c, x1d, -⟩ := id F_s.out
        obtain ⟨x2a, x2b, x2c, x2d, -⟩ := id F_c.out
        obtain ⟨x3a, x3b, x3c, x3d, -⟩ := id F_z.out
        go_wp2_with fail
        clear x0a x0b x0c x1a x1b x1c x1d x2a x2b x2c x2d x3a x3b x3c x3d
        refine (gcheck_any P Q G 0 _ hP hQ hG HV.out).mono ?_
        rintro e w3 ⟨rfl, hb3⟩
        replace F_g := Lib.hid (F_g.out.keep hb3)
        replace F_s := Lib.hid (F_s.out.keep hb3)
        replace F_c := Lib.hid (F_c.out.keep hb3)
        replace F_z := Lib.hid (F_z.out.keep hb3)
        replace HBW := Lib.hid (HBW.out.trans (hb3.mono HBW.out.size))
        clear hb3
        obtain ⟨x0a, x0b, x0c, -⟩ := id F_g.out
        obtain ⟨x1a, x1b, x1c, x1d, -⟩ := id F_s.out
        obtain ⟨x2a, x2b, x2c, x2d, -⟩ := id F_c.out
        obtain ⟨x3a, x3b, x3c, x3d, -⟩ := id F_z.out
        go_wp2_with fail
        clear x0a x0b x0c x1a x1b x1c x1d x2a x2b x2c x2d x3a x3b x3c x3d
        refine (member_is (r := true) _ hP hQ hG hy (by simp [HM_y.out, HH.out])).mono ?_
        rintro e w4 ⟨rfl, hb4⟩
        replace F_g := Lib.hid (F_g.out.keep hb4)
        replace F_s := Lib.hid (F_s.out.keep hb4)
        replace F_c := Lib.hid (F_c.out.keep hb4)
        replace F_z := Lib.hid (F_z.out.keep hb4)
        replace HBW := Lib.hid (HBW.out.trans (hb4.mono HBW.out.size))
        clear hb4
        obtain ⟨x0a, x0b, x0c, -⟩ := id F_g.out
        obtain ⟨x1a, x1b, x1c, x1d, -⟩ := id F_s.out
        obtain ⟨x2a, x2b, x2c, x2d, -⟩ := id F_c.out
        obtain ⟨x3a, x3b, x3c, x3d, -⟩ := id F_z.out
        go_wp2_with fail
        go_ret
        exact ⟨rfl, HBW.out⟩
      case pos =>
        subst he
        by_cases hr_ : r_ = true
        case neg =>
          have hb_ : r_ = false := by simpa using hr_
          subst hb_
          clear hr_ my
          have HVS := Lib.hid hvs
          clear hvs
          have F_g := Lib.hid (show Boxed ((((w.alloc (.cells #[.int .u64 P, .int .u64 Q, .int .u64 G] 24)).alloc (.cells #[.int .u64 a, .int .u64 b] 38)).alloc (.cells #[.int .u64 c0, .int .u64 c1] 39)).alloc (.cells #[.int .u64 z0, .int .u64 z1] 39)) (w.heap.size) P Q G from (((Boxed.at _ P Q G _ (w.heap.size) (by simp)).alloc _).alloc _).alloc _)
          have F_s := Lib.hid (show Pair ((((w.alloc (.cells #[.int .u64 P, .int .u64 Q, .int .u64 G] 24)).alloc (.cells #[.int .u64 a, .int .u64 b] 38)).alloc (.cells #[.int .u64 c0, .int .u64 c1] 39)).alloc (.cells #[.int .u64 z0, .int .u64 z1] 39)) (w.heap.size + 1) a b from ((Pair.at _ a b _ (w.heap.size + 1) (by simp)).alloc _).alloc _)
          have F_c := Lib.hid (show Pair ((((w.alloc (.cells #[.int .u64 P, .int .u64 Q, .int .u64 G] 24)).alloc (.cells #[.int .u64 a, .int .u64 b] 38)).alloc (.cells #[.int .u64 c0, .int .u64 c1] 39)).alloc (.cells #[.int .u64 z0, .int .u64 z1] 39)) (w.heap.size + 1 + 1) c0 c1 from (Pair.at _ c0 c1 _ (w.heap.size + 1 + 1) (by simp)).alloc _)
          have F_z := Lib.hid (show Pair ((((w.alloc (.cells #[.int .u64 P, .int .u64 Q, .int .u64 G] 24)).alloc (.cells #[.int .u64 a, .int .u64 b] 38)).alloc (.cells #[.int .u64 c0, .int .u64 c1] 39)).alloc (.cells #[.int .u64 z0, .int .u64 z1] 39)) (w.heap.size + 1 + 1 + 1) z0 z1 from Pair.at _ z0 z1 _ (w.heap.size + 1 + 1 + 1) (by simp))
          have HBW := Lib.hid (show Below w.heap.size w ((((w.alloc (.cells #[.int .u64 P, .int .u64 Q, .int .u64 G] 24)).alloc (.cells #[.int .u64 a, .int .u64 b] 38)).alloc (.cells #[.int .u64 c0, .int .u64 c1] 39)).alloc (.cells #[.int .u64 z0, .int .u64 z1] 39)) from ((((Below.refl _ _).alloc (by simp <;> omega) _).alloc (by simp <;> omega) _).alloc (by simp <;> omega) _).alloc (by simp <;> omega) _)
          go_enter Try.func4, Try.ntmps4
          obtain ⟨x0a, x0b, x0c, -⟩ := id F_g.out
          obtain ⟨x1a, x1b, x1c, x1d, -⟩ := id F_s.out
          obtain ⟨x2a, x2b, x2c, x2d, -⟩ := id F_c.out
          obtain ⟨x3a, x3b, x3c, x3d, -⟩ := id F_z.out
          go_wp2_with fail
          clear x0a x0b x0c x1a x1b x1c x1d x2a x2b x2c x2d x3a x3b x3c x3d
          refine (alive_yes _).mono ?_
          rintro e w1 ⟨rfl, hb1⟩
          replace F_g := Lib.hid (F_g.out.keep hb1)
          replace F_s := Lib.hid (F_s.out.keep hb1)
          replace F_c := Lib.hid (F_c.out.keep hb1)
          replace F_z := Lib.hid (F_z.out.keep hb1)
          replace HBW := Lib.hid (HBW.out.trans (hb1.mono HBW.out.size))
          clear hb1
          obtain ⟨x0a, x0b, x0c, -⟩ := id F_g.out
          obtain ⟨x1a, x1b, x1c, x1d, -⟩ := id F_s.out
          obtain ⟨x2a, x2b, x2c, x2d, -⟩ := id F_c.out
          obtain ⟨x3a, x3b, x3c, x3d, -⟩ := id F_z.out
          go_wp2_with fail
          clear x0a x0b x0c x1a x1b x1c x1d x2a x2b x2c x2d x3a x3b x3c x3d
          refine (evalid_gen _ hP hQ hG ha hb HVS.out).mono ?_
          rintro e w2 ⟨rfl, hb2⟩
          replace F_g := Lib.hid (F_g.out.keep hb2)
          replace F_s := Lib.hid (F_s.out.keep hb2)
          replace F_c := Lib.hid (F_c.out.keep hb2)
          replace F_z := Lib.hid (F_z.out.keep hb2)
          replace HBW := Lib.hid (HBW.out.trans (hb2.mono HBW.out.size))
          clear hb2
          obtain ⟨x0a, x0b, x0c, -⟩ := id F_g.out
          obtain ⟨x1a, x1b, x1c, x1d, -⟩ := id F_s.out
          obtain ⟨x2a, x2b, x2c, x2d, -⟩ := id F_c.out
          obtain ⟨x3a, x3b, x3c, x3d, -⟩ := id F_z.out
          go_wp2_with fail
          clear x0a x0b x0c x1a x1b x1c x1d x2a x2b x2c x2d x3a x3b x3c x3d
          refine (gcheck_any P Q G 0 _ hP hQ hG HV.out).mono ?_
          rintro e w3 ⟨rfl, hb3⟩
          replace F_g := Lib.hid (F_g.out.keep hb3)
          replace F_s := Lib.hid (F_s.out.keep hb3)
          replace F_c := Lib.hid (F_c.out.keep hb3)
          replace F_z := Lib.hid (F_z.out.keep hb3)
          replace HBW := Lib.hid (HBW.out.trans (hb3.mono HBW.out.size))
          clear hb3
          obtain ⟨x0a, x0b, x0c, -⟩ := id F_g.out
          obtain ⟨x1a, x1b, x1c, x1d, -⟩ := id F_s.out
          obtain ⟨x2a, x2b, x2c, x2d, -⟩ := id F_c.out
          obtain ⟨x3a, x3b, x3c, x3d, -⟩ := id F_z.out
          go_wp2_with fail
          clear x0a x0b x0c x1a x1b x1c x1d x2a x2b x2c x2d x3a x3b x3c x3d
          refine (member_is (r := true) _ hP hQ hG hy (by simp [HM_y.out, HH.out])).mono ?_
          rintro e w4 ⟨rfl, hb4⟩
          replace F_g := Lib.hid (F_g.out.keep hb4)
          replace F_s := Lib.hid (F_s.out.keep hb4)
          replace F_c := Lib.hid (F_c.out.keep hb4)
          replace F_z := Lib.hid (F_z.out.keep hb4)
          replace HBW := Lib.hid (HBW.out.trans (hb4.mono HBW.out.size))
          clear hb4
          obtain ⟨x0a, x0b, x0c, -⟩ := id F_g.out
          obtain ⟨x1a, x1b, x1c, x1d, -⟩ := id F_s.out
          obtain ⟨x2a, x2b, x2c, x2d, -⟩ := id F_c.out
          obtain ⟨x3a, x3b, x3c, x3d, -⟩ := id F_z.out
          go_wp2_with fail
          go_ret
          exact ⟨rfl, HBW.out⟩
        case pos =>
          subst hr_
          have mab : Mem P Q a ∧ Mem P Q b := by
            rcases hvs with ⟨h1, h2, -⟩ | ⟨h1, h2, -⟩
            · exact h2.1 rfl
            · cases h2
          have HVS := Lib.hid hvs
          clear hvs
          by_cases hc0Q : c0 < Q
          case neg =>
            have hc0Q_ : Q ≤ c0 := by omega
            clear hc0Q my mab
            have F_g := Lib.hid (show Boxed ((((w.alloc (.cells #[.int .u64 P, .int .u64 Q, .int .u64 G] 24)).alloc (.cells #[.int .u64 a, .int .u64 b] 38)).alloc (.cells #[.int .u64 c0, .int .u64 c1] 39)).alloc (.cells #[.int .u64 z0, .int .u64 z1] 39)) (w.heap.size) P Q G from (((Boxed.at _ P Q G _ (w.heap.size) (by simp)).alloc _).alloc _).alloc _)
            have F_s := Lib.hid (show Pair ((((w.alloc (.cells #[.int .u64 P, .int .u64 Q, .int .u64 G] 24)).alloc (.cells #[.int .u64 a, .int .u64 b] 38)).alloc (.cells #[.int .u64 c0, .int .u64 c1] 39)).alloc (.cells #[.int .u64 z0, .int .u64 z1] 39)) (w.heap.size + 1) a b from ((Pair.at _ a b _ (w.heap.size + 1) (by simp)).alloc _).alloc _)
            have F_c := Lib.hid (show Pair ((((w.alloc (.cells #[.int .u64 P, .int .u64 Q, .int .u64 G] 24)).alloc (.cells #[.int .u64 a, .int .u64 b] 38)).alloc (.cells #[.int .u64 c0, .int .u64 c1] 39)).alloc (.cells #[.int .u64 z0, .int .u64 z1] 39)) (w.heap.size + 1 + 1) c0 c1 from (Pair.at _ c0 c1 _ (w.heap.size + 1 + 1) (by simp)).alloc _)
            have F_z := Lib.hid (show Pair ((((w.alloc (.cells #[.int .u64 P, .int .u64 Q, .int .u64 G] 24)).alloc (.cells #[.int .u64 a, .int .u64 b] 38)).alloc (.cells #[.int .u64 c0, .int .u64 c1] 39)).alloc (.cells #[.int .u64 z0, .int .u64 z1] 39)) (w.heap.size + 1 + 1 + 1) z0 z1 from Pair.at _ z0 z1 _ (w.heap.size + 1 + 1 + 1) (by simp))
            have HBW := Lib.hid (show Below w.heap.size w ((((w.alloc (.cells #[.int .u64 P, .int .u64 Q, .int .u64 G] 24)).alloc (.cells #[.int .u64 a, .int .u64 b] 38)).alloc (.cells #[.int .u64 c0, .int .u64 c1] 39)).alloc (.cells #[.int .u64 z0, .int .u64 z1] 39)) from ((((Below.refl _ _).alloc (by simp <;> omega) _).alloc (by simp <;> omega) _).alloc (by simp <;> omega) _).alloc (by simp <;> omega) _)
            go_enter Try.func4, Try.ntmps4
            obtain ⟨x0a, x0b, x0c, -⟩ := id F_g.out
            obtain ⟨x1a, x1b, x1c, x1d, -⟩ := id F_s.out
            obtain ⟨x2a, x2b, x2c, x2d, -⟩ := id F_c.out
            obtain ⟨x3a, x3b, x3c, x3d, -⟩ := id F_z.out
            go_wp2_with fail
            clear x0a x0b x0c x1a x1b x1c x1d x2a x2b x2c x2d x3a x3b x3c x3d
            refine (alive_yes _).mono ?_
            rintro e w1 ⟨rfl, hb1⟩
            replace F_g := Lib.hid (F_g.out.keep hb1)
            replace F_s := Lib.hid (F_s.out.keep hb1)
            replace F_c := Lib.hid (F_c.out.keep hb1)
            replace F_z := Lib.hid (F_z.out.keep hb1)
            replace HBW := Lib.hid (HBW.out.trans (hb1.mono HBW.out.size))
            clear hb1
            obtain ⟨x0a, x0b, x0c, -⟩ := id F_g.out
            obtain ⟨x1a, x1b, x1c, x1d, -⟩ := id F_s.out
            obtain ⟨x2a, x2b, x2c, x2d, -⟩ := id F_c.out
            obtain ⟨x3a, x3b, x3c, x3d, -⟩ := id F_z.out
            go_wp2_with fail
            clear x0a x0b x0c x1a x1b x1c x1d x2a x2b x2c x2d x3a x3b x3c x3d
            refine (evalid_gen _ hP hQ hG ha hb HVS.out).mono ?_
            rintro e w2 ⟨rfl, hb2⟩
            replace F_g := Lib.hid (F_g.out.keep hb2)
            replace F_s := Lib.hid (F_s.out.keep hb2)
            replace F_c := Lib.hid (F_c.out.keep hb2)
            replace F_z := Lib.hid (F_z.out.keep hb2)
            replace HBW := Lib.hid (HBW.out.trans (hb2.mono HBW.out.size))
            clear hb2
            obtain ⟨x0a, x0b, x0c, -⟩ := id F_g.out
            obtain ⟨x1a, x1b, x1c, x1d, -⟩ := id F_s.out
            obtain ⟨x2a, x2b, x2c, x2d, -⟩ := id F_c.out
            obtain ⟨x3a, x3b, x3c, x3d, -⟩ := id F_z.out
            go_wp2_with fail
            clear x0a x0b x0c x1a x1b x1c x1d x2a x2b x2c x2d x3a x3b x3c x3d
            refine (gcheck_any P Q G 0 _ hP hQ hG HV.out).mono ?_
            rintro e w3 ⟨rfl, hb3⟩
            replace F_g := Lib.hid (F_g.out.keep hb3)
            replace F_s := Lib.hid (F_s.out.keep hb3)
            replace F_c := Lib.hid (F_c.out.keep hb3)
            replace F_z := Lib.hid (F_z.out.keep hb3)
            replace HBW := Lib.hid (HBW.out.trans (hb3.mono HBW.out.size))
            clear hb3
            obtain ⟨x0a, x0b, x0c, -⟩ := id F_g.out
            obtain ⟨x1a, x1b, x1c, x1d, -⟩ := id F_s.out
            obtain ⟨x2a, x2b, x2c, x2d, -⟩ := id F_c.out
            obtain ⟨x3a, x3b, x3c, x3d, -⟩ := id F_z.out
            go_wp2_with fail
            clear x0a x0b x0c x1a x1b x1c x1d x2a x2b x2c x2d x3a x3b x3c x3d
            refine (member_is (r := true) _ hP hQ hG hy (by simp [HM_y.out, HH.out])).mono ?_
            rintro e w4 ⟨rfl, hb4⟩
            replace F_g := Lib.hid (F_g.out.keep hb4)
            replace F_s := Lib.hid (F_s.out.keep hb4)
            replace F_c := Lib.hid (F_c.out.keep hb4)
            replace F_z := Lib.hid (F_z.out.keep hb4)
            replace HBW := Lib.hid (HBW.out.trans (hb4.mono HBW.out.size))
            clear hb4
            obtain ⟨x0a, x0b, x0c, -⟩ := id F_g.out
            obtain ⟨x1a, x1b, x1c, x1d, -⟩ := id F_s.out
            obtain ⟨x2a, x2b, x2c, x2d, -⟩ := id F_c.out
            obtain ⟨x3a, x3b, x3c, x3d, -⟩ := id F_z.out
            go_wp2_with fail
            go_ret
            exact ⟨rfl, HBW.out⟩
          case pos =>
            have c0Q := hc0Q
            clear hc0Q
            by_cases hc1Q : c1 < Q
            case neg =>
              have hc1Q_ : Q ≤ c1 := by omega
              clear hc1Q my mab
              have F_g := Lib.hid (show Boxed ((((w.alloc (.cells #[.int .u64 P, .int .u64 Q, .int .u64 G] 24)).alloc (.cells #[.int .u64 a, .int .u64 b] 38)).alloc (.cells #[.int .u64 c0, .int .u64 c1] 39)).alloc (.cells #[.int .u64 z0, .int .u64 z1] 39)) (w.heap.size) P Q G from (((Boxed.at _ P Q G _ (w.heap.size) (by simp)).alloc _).alloc _).alloc _)
              have F_s := Lib.hid (show Pair ((((w.alloc (.cells #[.int .u64 P, .int .u64 Q, .int .u64 G] 24)).alloc (.cells #[.int .u64 a, .int .u64 b] 38)).alloc (.cells #[.int .u64 c0, .int .u64 c1] 39)).alloc (.cells #[.int .u64 z0, .int .u64 z1] 39)) (w.heap.size + 1) a b from ((Pair.at _ a b _ (w.heap.size + 1) (by simp)).alloc _).alloc _)
              have F_c := Lib.hid (show Pair ((((w.alloc (.cells #[.int .u64 P, .int .u64 Q, .int .u64 G] 24)).alloc (.cells #[.int .u64 a, .int .u64 b] 38)).alloc (.cells #[.int .u64 c0, .int .u64 c1] 39)).alloc (.cells #[.int .u64 z0, .int .u64 z1] 39)) (w.heap.size + 1 + 1) c0 c1 from (Pair.at _ c0 c1 _ (w.heap.size + 1 + 1) (by simp)).alloc _)
              have F_z := Lib.hid (show Pair ((((w.alloc (.cells #[.int .u64 P, .int .u64 Q, .int .u64 G] 24)).alloc (.cells #[.int .u64 a, .int .u64 b] 38)).alloc (.cells #[.int .u64 c0, .int .u64 c1] 39)).alloc (.cells #[.int .u64 z0, .int .u64 z1] 39)) (w.heap.size + 1 + 1 + 1) z0 z1 from Pair.at _ z0 z1 _ (w.heap.size + 1 + 1 + 1) (by simp))
              have HBW := Lib.hid (show Below w.heap.size w ((((w.alloc (.cells #[.int .u64 P, .int .u64 Q, .int .u64 G] 24)).alloc (.cells #[.int .u64 a, .int .u64 b] 38)).alloc (.cells #[.int .u64 c0, .int .u64 c1] 39)).alloc (.cells #[.int .u64 z0, .int .u64 z1] 39)) from ((((Below.refl _ _).alloc (by simp <;> omega) _).alloc (by simp <;> omega) _).alloc (by simp <;> omega) _).alloc (by simp <;> omega) _)
              go_enter Try.func4, Try.ntmps4
              obtain ⟨x0a, x0b, x0c, -⟩ := id F_g.out
              obtain ⟨x1a, x1b, x1c, x1d, -⟩ := id F_s.out
              obtain ⟨x2a, x2b, x2c, x2d, -⟩ := id F_c.out
              obtain ⟨x3a, x3b, x3c, x3d, -⟩ := id F_z.out
              go_wp2_with fail
              clear x0a x0b x0c x1a x1b x1c x1d x2a x2b x2c x2d x3a x3b x3c x3d
              refine (alive_yes _).mono ?_
              rintro e w1 ⟨rfl, hb1⟩
              replace F_g := Lib.hid (F_g.out.keep hb1)
              replace F_s := Lib.hid (F_s.out.keep hb1)
              replace F_c := Lib.hid (F_c.out.keep hb1)
              replace F_z := Lib.hid (F_z.out.keep hb1)
              replace HBW := Lib.hid (HBW.out.trans (hb1.mono HBW.out.size))
              clear hb1
              obtain ⟨x0a, x0b, x0c, -⟩ := id F_g.out
              obtain ⟨x1a, x1b, x1c, x1d, -⟩ := id F_s.out
              obtain ⟨x2a, x2b, x2c, x2d, -⟩ := id F_c.out
              obtain ⟨x3a, x3b, x3c, x3d, -⟩ := id F_z.out
              go_wp2_with fail
              clear x0a x0b x0c x1a x1b x1c x1d x2a x2b x2c x2d x3a x3b x3c x3d
              refine (evalid_gen _ hP hQ hG ha hb HVS.out).mono ?_
              rintro e w2 ⟨rfl, hb2⟩
              replace F_g := Lib.hid (F_g.out.keep hb2)
              replace F_s := Lib.hid (F_s.out.keep hb2)
              replace F_c := Lib.hid (F_c.out.keep hb2)
              replace F_z := Lib.hid (F_z.out.keep hb2)
              replace HBW := Lib.hid (HBW.out.trans (hb2.mono HBW.out.size))
              clear hb2
              obtain ⟨x0a, x0b, x0c, -⟩ := id F_g.out
              obtain ⟨x1a, x1b, x1c, x1d, -⟩ := id F_s.out
              obtain ⟨x2a, x2b, x2c, x2d, -⟩ := id F_c.out
              obtain ⟨x3a, x3b, x3c, x3d, -⟩ := id F_z.out
              go_wp2_with fail
              clear x0a x0b x0c x1a x1b x1c x1d x2a x2b x2c x2d x3a x3b x3c x3d
              refine (gcheck_any P Q G 0 _ hP hQ hG HV.out).mono ?_
              rintro e w3 ⟨rfl, hb3⟩
              replace F_g := Lib.hid (F_g.out.keep hb3)
              replace F_s := Lib.hid (F_s.out.keep hb3)
              replace F_c := Lib.hid (F_c.out.keep hb3)
              replace F_z := Lib.hid (F_z.out.keep hb3)
              replace HBW := Lib.hid (HBW.out.trans (hb3.mono HBW.out.size))
              clear hb3
              obtain ⟨x0a, x0b, x0c, -⟩ := id F_g.out
              obtain ⟨x1a, x1b, x1c, x1d, -⟩ := id F_s.out
              obtain ⟨x2a, x2b, x2c, x2d, -⟩ := id F_c.out
              obtain ⟨x3a, x3b, x3c, x3d, -⟩ := id F_z.out
              go_wp2_with fail
              clear x0a x0b x0c x1a x1b x1c x1d x2a x2b x2c x2d x3a x3b x3c x3d
              refine (member_is (r := true) _ hP hQ hG hy (by simp [HM_y.out, HH.out])).mono ?_
              rintro e w4 ⟨rfl, hb4⟩
              replace F_g := Lib.hid (F_g.out.keep hb4)
              replace F_s := Lib.hid (F_s.out.keep hb4)
              replace F_c := Lib.hid (F_c.out.keep hb4)
              replace F_z := Lib.hid (F_z.out.keep hb4)
              replace HBW := Lib.hid (HBW.out.trans (hb4.mono HBW.out.size))
              clear hb4
              obtain ⟨x0a, x0b, x0c, -⟩ := id F_g.out
              obtain ⟨x1a, x1b, x1c, x1d, -⟩ := id F_s.out
              obtain ⟨x2a, x2b, x2c, x2d, -⟩ := id F_c.out
              obtain ⟨x3a, x3b, x3c, x3d, -⟩ := id F_z.out
              go_wp2_with fail
              go_ret
              exact ⟨rfl, HBW.out⟩
            case pos =>
              have c1Q := hc1Q
              clear hc1Q
              by_cases hz0Q : z0 < Q
              case neg =>
                have hz0Q_ : Q ≤ z0 := by omega
                clear hz0Q my mab
                have F_g := Lib.hid (show Boxed ((((w.alloc (.cells #[.int .u64 P, .int .u64 Q, .int .u64 G] 24)).alloc (.cells #[.int .u64 a, .int .u64 b] 38)).alloc (.cells #[.int .u64 c0, .int .u64 c1] 39)).alloc (.cells #[.int .u64 z0, .int .u64 z1] 39)) (w.heap.size) P Q G from (((Boxed.at _ P Q G _ (w.heap.size) (by simp)).alloc _).alloc _).alloc _)
                have F_s := Lib.hid (show Pair ((((w.alloc (.cells #[.int .u64 P, .int .u64 Q, .int .u64 G] 24)).alloc (.cells #[.int .u64 a, .int .u64 b] 38)).alloc (.cells #[.int .u64 c0, .int .u64 c1] 39)).alloc (.cells #[.int .u64 z0, .int .u64 z1] 39)) (w.heap.size + 1) a b from ((Pair.at _ a b _ (w.heap.size + 1) (by simp)).alloc _).alloc _)
                have F_c := Lib.hid (show Pair ((((w.alloc (.cells #[.int .u64 P, .int .u64 Q, .int .u64 G] 24)).alloc (.cells #[.int .u64 a, .int .u64 b] 38)).alloc (.cells #[.int .u64 c0, .int .u64 c1] 39)).alloc (.cells #[.int .u64 z0, .int .u64 z1] 39)) (w.heap.size + 1 + 1) c0 c1 from (Pair.at _ c0 c1 _ (w.heap.size + 1 + 1) (by simp)).alloc _)
                have F_z := Lib.hid (show Pair ((((w.alloc (.cells #[.int .u64 P, .int .u64 Q, .int .u64 G] 24)).alloc (.cells #[.int .u64 a, .int .u64 b] 38)).alloc (.cells #[.int .u64 c0, .int .u64 c1] 39)).alloc (.cells #[.int .u64 z0, .int .u64 z1] 39)) (w.heap.size + 1 + 1 + 1) z0 z1 from Pair.at _ z0 z1 _ (w.heap.size + 1 + 1 + 1) (by simp))
                have HBW := Lib.hid (show Below w.heap.size w ((((w.alloc (.cells #[.int .u64 P, .int .u64 Q, .int .u64 G] 24)).alloc (.cells #[.int .u64 a, .int .u64 b] 38)).alloc (.cells #[.int .u64 c0, .int .u64 c1] 39)).alloc (.cells #[.int .u64 z0, .int .u64 z1] 39)) from ((((Below.refl _ _).alloc (by simp <;> omega) _).alloc (by simp <;> omega) _).alloc (by simp <;> omega) _).alloc (by simp <;> omega) _)
                go_enter Try.func4, Try.ntmps4
                obtain ⟨x0a, x0b, x0c, -⟩ := id F_g.out
                obtain ⟨x1a, x1b, x1c, x1d, -⟩ := id F_s.out
                obtain ⟨x2a, x2b, x2c, x2d, -⟩ := id F_c.out
                obtain ⟨x3a, x3b, x3c, x3d, -⟩ := id F_z.out
                go_wp2_with fail
                clear x0a x0b x0c x1a x1b x1c x1d x2a x2b x2c x2d x3a x3b x3c x3d
                refine (alive_yes _).mono ?_
                rintro e w1 ⟨rfl, hb1⟩
                replace F_g := Lib.hid (F_g.out.keep hb1)
                replace F_s := Lib.hid (F_s.out.keep hb1)
                replace F_c := Lib.hid (F_c.out.keep hb1)
                replace F_z := Lib.hid (F_z.out.keep hb1)
                replace HBW := Lib.hid (HBW.out.trans (hb1.mono HBW.out.size))
                clear hb1
                obtain ⟨x0a, x0b, x0c, -⟩ := id F_g.out
                obtain ⟨x1a, x1b, x1c, x1d, -⟩ := id F_s.out
                obtain ⟨x2a, x2b, x2c, x2d, -⟩ := id F_c.out
                obtain ⟨x3a, x3b, x3c, x3d, -⟩ := id F_z.out
                go_wp2_with fail
                clear x0a x0b x0c x1a x1b x1c x1d x2a x2b x2c x2d x3a x3b x3c x3d
                refine (evalid_gen _ hP hQ hG ha hb HVS.out).mono ?_
                rintro e w2 ⟨rfl, hb2⟩
                replace F_g := Lib.hid (F_g.out.keep hb2)
                replace F_s := Lib.hid (F_s.out.keep hb2)
                replace F_c := Lib.hid (F_c.out.keep hb2)
                replace F_z := Lib.hid (F_z.out.keep hb2)
                replace HBW := Lib.hid (HBW.out.trans (hb2.mono HBW.out.size))
                clear hb2
                obtain ⟨x0a, x0b, x0c, -⟩ := id F_g.out
                obtain ⟨x1a, x1b, x1c, x1d, -⟩ := id F_s.out
                obtain ⟨x2a, x2b, x2c, x2d, -⟩ := id F_c.out
                obtain ⟨x3a, x3b, x3c, x3d, -⟩ := id F_z.out
                go_wp2_with fail
                clear x0a x0b x0c x1a x1b x1c x1d x2a x2b x2c x2d x3a x3b x3c x3d
                refine (gcheck_any P Q G 0 _ hP hQ hG HV.out).mono ?_
                rintro e w3 ⟨rfl, hb3⟩
                replace F_g := Lib.hid (F_g.out.keep hb3)
                replace F_s := Lib.hid (F_s.out.keep hb3)
                replace F_c := Lib.hid (F_c.out.keep hb3)
                replace F_z := Lib.hid (F_z.out.keep hb3)
                replace HBW := Lib.hid (HBW.out.trans (hb3.mono HBW.out.size))
                clear hb3
                obtain ⟨x0a, x0b, x0c, -⟩ := id F_g.out
                obtain ⟨x1a, x1b, x1c, x1d, -⟩ := id F_s.out
                obtain ⟨x2a, x2b, x2c, x2d, -⟩ := id F_c.out
                obtain ⟨x3a, x3b, x3c, x3d, -⟩ := id F_z.out
                go_wp2_with fail
                clear x0a x0b x0c x1a x1b x1c x1d x2a x2b x2c x2d x3a x3b x3c x3d
                refine (member_is (r := true) _ hP hQ hG hy (by simp [HM_y.out, HH.out])).mono ?_
                rintro e w4 ⟨rfl, hb4⟩
                replace F_g := Lib.hid (F_g.out.keep hb4)
                replace F_s := Lib.hid (F_s.out.keep hb4)
                replace F_c := Lib.hid (F_c.out.keep hb4)
                replace F_z := Lib.hid (F_z.out.keep hb4)
                replace HBW := Lib.hid (HBW.out.trans (hb4.mono HBW.out.size))
                clear hb4
                obtain ⟨x0a, x0b, x0c, -⟩ := id F_g.out
                obtain ⟨x1a, x1b, x1c, x1d, -⟩ := id F_s.out
                obtain ⟨x2a, x2b, x2c, x2d, -⟩ := id F_c.out
                obtain ⟨x3a, x3b, x3c, x3d, -⟩ := id F_z.out
                go_wp2_with fail
                go_ret
                exact ⟨rfl, HBW.out⟩
              case pos =>
                have z0Q := hz0Q
                clear hz0Q
                by_cases hz1Q : z1 < Q
                case neg =>
                  have hz1Q_ : Q ≤ z1 := by omega
                  clear hz1Q my mab
                  have F_g := Lib.hid (show Boxed ((((w.alloc (.cells #[.int .u64 P, .int .u64 Q, .int .u64 G] 24)).alloc (.cells #[.int .u64 a, .int .u64 b] 38)).alloc (.cells #[.int .u64 c0, .int .u64 c1] 39)).alloc (.cells #[.int .u64 z0, .int .u64 z1] 39)) (w.heap.size) P Q G from (((Boxed.at _ P Q G _ (w.heap.size) (by simp)).alloc _).alloc _).alloc _)
                  have F_s := Lib.hid (show Pair ((((w.alloc (.cells #[.int .u64 P, .int .u64 Q, .int .u64 G] 24)).alloc (.cells #[.int .u64 a, .int .u64 b] 38)).alloc (.cells #[.int .u64 c0, .int .u64 c1] 39)).alloc (.cells #[.int .u64 z0, .int .u64 z1] 39)) (w.heap.size + 1) a b from ((Pair.at _ a b _ (w.heap.size + 1) (by simp)).alloc _).alloc _)
                  have F_c := Lib.hid (show Pair ((((w.alloc (.cells #[.int .u64 P, .int .u64 Q, .int .u64 G] 24)).alloc (.cells #[.int .u64 a, .int .u64 b] 38)).alloc (.cells #[.int .u64 c0, .int .u64 c1] 39)).alloc (.cells #[.int .u64 z0, .int .u64 z1] 39)) (w.heap.size + 1 + 1) c0 c1 from (Pair.at _ c0 c1 _ (w.heap.size + 1 + 1) (by simp)).alloc _)
                  have F_z := Lib.hid (show Pair ((((w.alloc (.cells #[.int .u64 P, .int .u64 Q, .int .u64 G] 24)).alloc (.cells #[.int .u64 a, .int .u64 b] 38)).alloc (.cells #[.int .u64 c0, .int .u64 c1] 39)).alloc (.cells #[.int .u64 z0, .int .u64 z1] 39)) (w.heap.size + 1 + 1 + 1) z0 z1 from Pair.at _ z0 z1 _ (w.heap.size + 1 + 1 + 1) (by simp))
                  have HBW := Lib.hid (show Below w.heap.size w ((((w.alloc (.cells #[.int .u64 P, .int .u64 Q, .int .u64 G] 24)).alloc (.cells #[.int .u64 a, .int .u64 b] 38)).alloc (.cells #[.int .u64 c0, .int .u64 c1] 39)).alloc (.cells #[.int .u64 z0, .int .u64 z1] 39)) from ((((Below.refl _ _).alloc (by simp <;> omega) _).alloc (by simp <;> omega) _).alloc (by simp <;> omega) _).alloc (by simp <;> omega) _)
                  go_enter Try.func4, Try.ntmps4
                  obtain ⟨x0a, x0b, x0c, -⟩ := id F_g.out
                  obtain ⟨x1a, x1b, x1c, x1d, -⟩ := id F_s.out
                  obtain ⟨x2a, x2b, x2c, x2d, -⟩ := id F_c.out
                  obtain ⟨x3a, x3b, x3c, x3d, -⟩ := id F_z.out
                  go_wp2_with fail
                  clear x0a x0b x0c x1a x1b x1c x1d x2a x2b x2c x2d x3a x3b x3c x3d
                  refine (alive_yes _).mono ?_
                  rintro e w1 ⟨rfl, hb1⟩
                  replace F_g := Lib.hid (F_g.out.keep hb1)
                  replace F_s := Lib.hid (F_s.out.keep hb1)
                  replace F_c := Lib.hid (F_c.out.keep hb1)
                  replace F_z := Lib.hid (F_z.out.keep hb1)
                  replace HBW := Lib.hid (HBW.out.trans (hb1.mono HBW.out.size))
                  clear hb1
                  obtain ⟨x0a, x0b, x0c, -⟩ := id F_g.out
                  obtain ⟨x1a, x1b, x1c, x1d, -⟩ := id F_s.out
                  obtain ⟨x2a, x2b, x2c, x2d, -⟩ := id F_c.out
                  obtain ⟨x3a, x3b, x3c, x3d, -⟩ := id F_z.out
                  go_wp2_with fail
                  clear x0a x0b x0c x1a x1b x1c x1d x2a x2b x2c x2d x3a x3b x3c x3d
                  refine (evalid_gen _ hP hQ hG ha hb HVS.out).mono ?_
                  rintro e w2 ⟨rfl, hb2⟩
                  replace F_g := Lib.hid (F_g.out.keep hb2)
                  replace F_s := Lib.hid (F_s.out.keep hb2)
                  replace F_c := Lib.hid (F_c.out.keep hb2)
                  replace F_z := Lib.hid (F_z.out.keep hb2)
                  replace HBW := Lib.hid (HBW.out.trans (hb2.mono HBW.out.size))
                  clear hb2
                  obtain ⟨x0a, x0b, x0c, -⟩ := id F_g.out
                  obtain ⟨x1a, x1b, x1c, x1d, -⟩ := id F_s.out
                  obtain ⟨x2a, x2b, x2c, x2d, -⟩ := id F_c.out
                  obtain ⟨x3a, x3b, x3c, x3d, -⟩ := id F_z.out
                  go_wp2_with fail
                  clear x0a x0b x0c x1a x1b x1c x1d x2a x2b x2c x2d x3a x3b x3c x3d
                  refine (gcheck_any P Q G 0 _ hP hQ hG HV.out).mono ?_
                  rintro e w3 ⟨rfl, hb3⟩
                  replace F_g := Lib.hid (F_g.out.keep hb3)
                  replace F_s := Lib.hid (F_s.out.keep hb3)
                  replace F_c := Lib.hid (F_c.out.keep hb3)
                  replace F_z := Lib.hid (F_z.out.keep hb3)
                  replace HBW := Lib.hid (HBW.out.trans (hb3.mono HBW.out.size))
                  clear hb3
                  obtain ⟨x0a, x0b, x0c, -⟩ := id F_g.out
                  obtain ⟨x1a, x1b, x1c, x1d, -⟩ := id F_s.out
                  obtain ⟨x2a, x2b, x2c, x2d, -⟩ := id F_c.out
                  obtain ⟨x3a, x3b, x3c, x3d, -⟩ := id F_z.out
                  go_wp2_with fail
                  clear x0a x0b x0c x1a x1b x1c x1d x2a x2b x2c x2d x3a x3b x3c x3d
                  refine (member_is (r := true) _ hP hQ hG hy (by simp [HM_y.out, HH.out])).mono ?_
                  rintro e w4 ⟨rfl, hb4⟩
                  replace F_g := Lib.hid (F_g.out.keep hb4)
                  replace F_s := Lib.hid (F_s.out.keep hb4)
                  replace F_c := Lib.hid (F_c.out.keep hb4)
                  replace F_z := Lib.hid (F_z.out.keep hb4)
                  replace HBW := Lib.hid (HBW.out.trans (hb4.mono HBW.out.size))
                  clear hb4
                  obtain ⟨x0a, x0b, x0c, -⟩ := id F_g.out
                  obtain ⟨x1a, x1b, x1c, x1d, -⟩ := id F_s.out
                  obtain ⟨x2a, x2b, x2c, x2d, -⟩ := id F_c.out
                  obtain ⟨x3a, x3b, x3c, x3d, -⟩ := id F_z.out
                  go_wp2_with fail
                  go_ret
                  exact ⟨rfl, HBW.out⟩
                case pos =>
                  have z1Q := hz1Q
                  clear hz1Q
                  obtain ⟨ma, mb⟩ := mab
                  have aP := ma.2.1
                  have bP := mb.2.1
                  have yP := my.2.1
                  obtain ⟨nn, hnn⟩ : ∃ nn, (0 - 1) % Q = nn := ⟨_, rfl⟩
                  obtain ⟨pp, hpp⟩ : ∃ pp, powm G nn P = pp := ⟨_, rfl⟩
                  obtain ⟨t, htt⟩ : ∃ t, b * pp % P = t := ⟨_, rfl⟩
                  have hig := inv_g HG.out hnn hpp
                  have mG := HG.out.mem_g
                  have mpp : Mem P Q pp := by rw [← hpp]; exact HG.out.mem_pow mG nn
                  have mt : Mem P Q t := by rw [← htt]; exact HG.out.mem_mul mb mpp
                  have tP := mt.2.1
                  have t0 : 0 ≤ t := Int.le_of_lt mt.1
                  have i1 : Inv P 1 1 := ⟨by omega, by omega, Cg.of_eq (by omega)⟩
                  have hb1 : b * 1 % P = b := by rw [Int.mul_one, Int.emod_eq_of_lt hb bP]
                  obtain ⟨u_r0, hu_r0⟩ : ∃ u, powm G z0 P = u := ⟨_, rfl⟩
                  obtain ⟨v_r0, hv_r0⟩ : ∃ v, powm a c0 P = v := ⟨_, rfl⟩
                  have mu_r0 : Mem P Q u_r0 := by rw [← hu_r0]; exact HG.out.mem_pow mG z0
                  have mv_r0 : Mem P Q v_r0 := by rw [← hv_r0]; exact HG.out.mem_pow ma c0
                  obtain ⟨i_r0, hi_r0⟩ := HG.out.pP.inv (HG.out.nd mv_r0)
                  obtain ⟨r0, hr_r0⟩ : ∃ r, u_r0 * i_r0 % P = r := ⟨_, rfl⟩
                  have hs_r0 := (simulates HG.out mv_r0 (Int.le_of_lt mu_r0.1) mu_r0.2.1 hi_r0 hr_r0).1
                  have r0_0 : 0 ≤ r0 := by rw [← hr_r0]; exact Int.emod_nonneg _ (by omega)
                  have r0_P : r0 < P := by rw [← hr_r0]; exact Int.emod_lt_of_pos _ (by omega)
                  have HU_r0 := Lib.hid hu_r0
                  have HV_r0 := Lib.hid hv_r0
                  have HI_r0 := Lib.hid hi_r0
                  have HR_r0 := Lib.hid hr_r0
                  obtain ⟨u_s0, hu_s0⟩ : ∃ u, powm y z0 P = u := ⟨_, rfl⟩
                  obtain ⟨v_s0, hv_s0⟩ : ∃ v, powm b c0 P = v := ⟨_, rfl⟩
                  have mu_s0 : Mem P Q u_s0 := by rw [← hu_s0]; exact HG.out.mem_pow my z0
                  have mv_s0 : Mem P Q v_s0 := by rw [← hv_s0]; exact HG.out.mem_pow mb c0
                  obtain ⟨i_s0, hi_s0⟩ := HG.out.pP.inv (HG.out.nd mv_s0)
                  obtain ⟨s0, hr_s0⟩ : ∃ r, u_s0 * i_s0 % P = r := ⟨_, rfl⟩
                  have hs_s0 := (simulates HG.out mv_s0 (Int.le_of_lt mu_s0.1) mu_s0.2.1 hi_s0 hr_s0).1
                  have s0_0 : 0 ≤ s0 := by rw [← hr_s0]; exact Int.emod_nonneg _ (by omega)
                  have s0_P : s0 < P := by rw [← hr_s0]; exact Int.emod_lt_of_pos _ (by omega)
                  have HU_s0 := Lib.hid hu_s0
                  have HV_s0 := Lib.hid hv_s0
                  have HI_s0 := Lib.hid hi_s0
                  have HR_s0 := Lib.hid hr_s0
                  obtain ⟨u_r1, hu_r1⟩ : ∃ u, powm G z1 P = u := ⟨_, rfl⟩
                  obtain ⟨v_r1, hv_r1⟩ : ∃ v, powm a c1 P = v := ⟨_, rfl⟩
                  have mu_r1 : Mem P Q u_r1 := by rw [← hu_r1]; exact HG.out.mem_pow mG z1
                  have mv_r1 : Mem P Q v_r1 := by rw [← hv_r1]; exact HG.out.mem_pow ma c1
                  obtain ⟨i_r1, hi_r1⟩ := HG.out.pP.inv (HG.out.nd mv_r1)
                  obtain ⟨r1, hr_r1⟩ : ∃ r, u_r1 * i_r1 % P = r := ⟨_, rfl⟩
                  have hs_r1 := (simulates HG.out mv_r1 (Int.le_of_lt mu_r1.1) mu_r1.2.1 hi_r1 hr_r1).1
                  have r1_0 : 0 ≤ r1 := by rw [← hr_r1]; exact Int.emod_nonneg _ (by omega)
                  have r1_P : r1 < P := by rw [← hr_r1]; exact Int.emod_lt_of_pos _ (by omega)
                  have HU_r1 := Lib.hid hu_r1
                  have HV_r1 := Lib.hid hv_r1
                  have HI_r1 := Lib.hid hi_r1
                  have HR_r1 := Lib.hid hr_r1
                  obtain ⟨u_s1, hu_s1⟩ : ∃ u, powm y z1 P = u := ⟨_, rfl⟩
                  obtain ⟨v_s1, hv_s1⟩ : ∃ v, powm t c1 P = v := ⟨_, rfl⟩
                  have mu_s1 : Mem P Q u_s1 := by rw [← hu_s1]; exact HG.out.mem_pow my z1
                  have mv_s1 : Mem P Q v_s1 := by rw [← hv_s1]; exact HG.out.mem_pow mt c1
                  obtain ⟨i_s1, hi_s1⟩ := HG.out.pP.inv (HG.out.nd mv_s1)
                  obtain ⟨s1, hr_s1⟩ : ∃ r, u_s1 * i_s1 % P = r := ⟨_, rfl⟩
                  have hs_s1 := (simulates HG.out mv_s1 (Int.le_of_lt mu_s1.1) mu_s1.2.1 hi_s1 hr_s1).1
                  have s1_0 : 0 ≤ s1 := by rw [← hr_s1]; exact Int.emod_nonneg _ (by omega)
                  have s1_P : s1 < P := by rw [← hr_s1]; exact Int.emod_lt_of_pos _ (by omega)
                  have HU_s1 := Lib.hid hu_s1
                  have HV_s1 := Lib.hid hv_s1
                  have HI_s1 := Lib.hid hi_s1
                  have HR_s1 := Lib.hid hr_s1
                  obtain ⟨sm, hsm⟩ : ∃ m, (c0 + c1) % Q = m := ⟨_, rfl⟩
                  have sm0 : 0 ≤ sm := by rw [← hsm]; exact Int.emod_nonneg _ (by omega)
                  have smQ : sm < Q := by rw [← hsm]; exact Int.emod_lt_of_pos _ (by omega)
                  have HBH := Lib.hid (show RetB (askS P Q G [sm, c0, c1, z0, z1] [y, a, b, r0, r1, s0, s1]) ((powm G z0 P = r0 * powm a c0 P % P ∧ powm y z0 P = s0 * powm b c0 P % P) ∧ (powm G z1 P = r1 * powm a c1 P % P ∧ powm y z1 P = s1 * powm t c1 P % P) ∧ (c0 + c1) % Q = sm) true 0 from
                    .inl ⟨askS_ok HH.out (by simpa using ⟨smQ, c0Q, c1Q, z0Q, z1Q⟩) (by simpa using ⟨yP, aP, bP, r0_P, r1_P, s0_P, s1_P⟩), by
                      simp only [hu_r0, hv_r0, hu_s0, hv_s0, hu_r1, hv_r1, hu_s1, hv_s1, true_iff]
                      exact ⟨⟨hs_r0, hs_s0⟩, ⟨hs_r1, hs_s1⟩, hsm⟩, rfl⟩)
                  have HST0 := Lib.hid (show StripS P Q G a b 1 b 0 from .inl ⟨askS_ok HH.out (by simp) (by simpa using ⟨aP, bP, show (1 : Int) < P by omega⟩), true, 1, .inl ⟨rfl, i1⟩, .inl ⟨rfl, hb1, rfl⟩⟩)
                  have HST1 := Lib.hid (show StripS P Q G a b G t 0 from .inl ⟨askS_ok HH.out (by simp) (by simpa using ⟨aP, bP, gP⟩), true, pp, .inl ⟨rfl, hig⟩, .inl ⟨rfl, htt, rfl⟩⟩)
                  have HP0 := Lib.hid (show powm G 0 P = 1 by rw [powm_zero]; exact HG.out.one)
                  have HP1 := Lib.hid (powm_one hG gP)
                  have HNN := Lib.hid hnn
                  have HPP := Lib.hid hpp
                  have HTT := Lib.hid htt
                  have HSM := Lib.hid hsm
                  have U0 := Lib.hid (show U64 (0 : Int) from ⟨by omega, by omega⟩)
                  have U1 := Lib.hid (show U64 (1 : Int) from ⟨by omega, by omega⟩)
                  have Uz0 := Lib.hid uz0
                  have Uz1 := Lib.hid uz1
                  have Uc0 := Lib.hid uc0
                  have Uc1 := Lib.hid uc1
                  have one_0 : (0 : Int) ≤ 1 := by omega
                  have hw0 : IntKind.u64.wrap 0 = 0 := wrap_u (by omega) (by omega)
                  have hw1 : IntKind.u64.wrap 1 = 1 := wrap_u (by omega) (by omega)
                  clear hnn hpp htt hsm hig mG mpp mt ma mb my i1 hb1 hu_r0 hv_r0 mu_r0 mv_r0 hi_r0 hr_r0 hs_r0 hu_s0 hv_s0 mu_s0 mv_s0 hi_s0 hr_s0 hs_s0 hu_r1 hv_r1 mu_r1 mv_r1 hi_r1 hr_r1 hs_r1 hu_s1 hv_s1 mu_s1 mv_s1 hi_s1 hr_s1 hs_s1
                  have F_g := Lib.hid (show Boxed ((((w.alloc (.cells #[.int .u64 P, .int .u64 Q, .int .u64 G] 24)).alloc (.cells #[.int .u64 a, .int .u64 b] 38)).alloc (.cells #[.int .u64 c0, .int .u64 c1] 39)).alloc (.cells #[.int .u64 z0, .int .u64 z1] 39)) (w.heap.size) P Q G from (((Boxed.at _ P Q G _ (w.heap.size) (by simp)).alloc _).alloc _).alloc _)
                  have F_s := Lib.hid (show Pair ((((w.alloc (.cells #[.int .u64 P, .int .u64 Q, .int .u64 G] 24)).alloc (.cells #[.int .u64 a, .int .u64 b] 38)).alloc (.cells #[.int .u64 c0, .int .u64 c1] 39)).alloc (.cells #[.int .u64 z0, .int .u64 z1] 39)) (w.heap.size + 1) a b from ((Pair.at _ a b _ (w.heap.size + 1) (by simp)).alloc _).alloc _)
                  have F_c := Lib.hid (show Pair ((((w.alloc (.cells #[.int .u64 P, .int .u64 Q, .int .u64 G] 24)).alloc (.cells #[.int .u64 a, .int .u64 b] 38)).alloc (.cells #[.int .u64 c0, .int .u64 c1] 39)).alloc (.cells #[.int .u64 z0, .int .u64 z1] 39)) (w.heap.size + 1 + 1) c0 c1 from (Pair.at _ c0 c1 _ (w.heap.size + 1 + 1) (by simp)).alloc _)
                  have F_z := Lib.hid (show Pair ((((w.alloc (.cells #[.int .u64 P, .int .u64 Q, .int .u64 G] 24)).alloc (.cells #[.int .u64 a, .int .u64 b] 38)).alloc (.cells #[.int .u64 c0, .int .u64 c1] 39)).alloc (.cells #[.int .u64 z0, .int .u64 z1] 39)) (w.heap.size + 1 + 1 + 1) z0 z1 from Pair.at _ z0 z1 _ (w.heap.size + 1 + 1 + 1) (by simp))
                  have HBW := Lib.hid (show Below w.heap.size w ((((w.alloc (.cells #[.int .u64 P, .int .u64 Q, .int .u64 G] 24)).alloc (.cells #[.int .u64 a, .int .u64 b] 38)).alloc (.cells #[.int .u64 c0, .int .u64 c1] 39)).alloc (.cells #[.int .u64 z0, .int .u64 z1] 39)) from ((((Below.refl _ _).alloc (by simp <;> omega) _).alloc (by simp <;> omega) _).alloc (by simp <;> omega) _).alloc (by simp <;> omega) _)
                  go_enter Try.func4, Try.ntmps4
                  obtain ⟨x0a, x0b, x0c, -⟩ := id F_g.out
                  obtain ⟨x1a, x1b, x1c, x1d, -⟩ := id F_s.out
                  obtain ⟨x2a, x2b, x2c, x2d, -⟩ := id F_c.out
                  obtain ⟨x3a, x3b, x3c, x3d, -⟩ := id F_z.out
                  go_wp2_with fail
                  clear x0a x0b x0c x1a x1b x1c x1d x2a x2b x2c x2d x3a x3b x3c x3d
                  refine (alive_yes _).mono ?_
                  rintro e w1 ⟨rfl, hb1⟩
                  replace F_g := Lib.hid (F_g.out.keep hb1)
                  replace F_s := Lib.hid (F_s.out.keep hb1)
                  replace F_c := Lib.hid (F_c.out.keep hb1)
                  replace F_z := Lib.hid (F_z.out.keep hb1)
                  replace HBW := Lib.hid (HBW.out.trans (hb1.mono HBW.out.size))
                  clear hb1
                  obtain ⟨x0a, x0b, x0c, -⟩ := id F_g.out
                  obtain ⟨x1a, x1b, x1c, x1d, -⟩ := id F_s.out
                  obtain ⟨x2a, x2b, x2c, x2d, -⟩ := id F_c.out
                  obtain ⟨x3a, x3b, x3c, x3d, -⟩ := id F_z.out
                  go_wp2_with fail
                  clear x0a x0b x0c x1a x1b x1c x1d x2a x2b x2c x2d x3a x3b x3c x3d
                  refine (evalid_gen _ hP hQ hG ha hb HVS.out).mono ?_
                  rintro e w2 ⟨rfl, hb2⟩
                  replace F_g := Lib.hid (F_g.out.keep hb2)
                  replace F_s := Lib.hid (F_s.out.keep hb2)
                  replace F_c := Lib.hid (F_c.out.keep hb2)
                  replace F_z := Lib.hid (F_z.out.keep hb2)
                  replace HBW := Lib.hid (HBW.out.trans (hb2.mono HBW.out.size))
                  clear hb2
                  obtain ⟨x0a, x0b, x0c, -⟩ := id F_g.out
                  obtain ⟨x1a, x1b, x1c, x1d, -⟩ := id F_s.out
                  obtain ⟨x2a, x2b, x2c, x2d, -⟩ := id F_c.out
                  obtain ⟨x3a, x3b, x3c, x3d, -⟩ := id F_z.out
                  go_wp2_with fail
                  clear x0a x0b x0c x1a x1b x1c x1d x2a x2b x2c x2d x3a x3b x3c x3d
                  refine (gcheck_any P Q G 0 _ hP hQ hG HV.out).mono ?_
                  rintro e w3 ⟨rfl, hb3⟩
                  replace F_g := Lib.hid (F_g.out.keep hb3)
                  replace F_s := Lib.hid (F_s.out.keep hb3)
                  replace F_c := Lib.hid (F_c.out.keep hb3)
                  replace F_z := Lib.hid (F_z.out.keep hb3)
                  replace HBW := Lib.hid (HBW.out.trans (hb3.mono HBW.out.size))
                  clear hb3
                  obtain ⟨x0a, x0b, x0c, -⟩ := id F_g.out
                  obtain ⟨x1a, x1b, x1c, x1d, -⟩ := id F_s.out
                  obtain ⟨x2a, x2b, x2c, x2d, -⟩ := id F_c.out
                  obtain ⟨x3a, x3b, x3c, x3d, -⟩ := id F_z.out
                  go_wp2_with fail
                  clear x0a x0b x0c x1a x1b x1c x1d x2a x2b x2c x2d x3a x3b x3c x3d
                  refine (member_is (r := true) _ hP hQ hG hy (by simp [HM_y.out, HH.out])).mono ?_
                  rintro e w4 ⟨rfl, hb4⟩
                  replace F_g := Lib.hid (F_g.out.keep hb4)
                  replace F_s := Lib.hid (F_s.out.keep hb4)
                  replace F_c := Lib.hid (F_c.out.keep hb4)
                  replace F_z := Lib.hid (F_z.out.keep hb4)
                  replace HBW := Lib.hid (HBW.out.trans (hb4.mono HBW.out.size))
                  clear hb4
                  obtain ⟨x0a, x0b, x0c, -⟩ := id F_g.out
                  obtain ⟨x1a, x1b, x1c, x1d, -⟩ := id F_s.out
                  obtain ⟨x2a, x2b, x2c, x2d, -⟩ := id F_c.out
                  obtain ⟨x3a, x3b, x3c, x3d, -⟩ := id F_z.out
                  go_wp2_with fail
                  clear x0a x0b x0c x1a x1b x1c x1d x2a x2b x2c x2d x3a x3b x3c x3d
                  have PB : w.heap.size + 4 ≤ w4.heap.size := by have := F_z.out.lt; omega
                  replace F_g := Lib.hid (F_g.out.alloc (.cells #[.int .u64 0, .int .u64 0, .int .u64 0, .int .u64 0, .int .u64 c0, .int .u64 c1, .int .u64 z0, .int .u64 z1] 42))
                  replace F_s := Lib.hid (F_s.out.alloc (.cells #[.int .u64 0, .int .u64 0, .int .u64 0, .int .u64 0, .int .u64 c0, .int .u64 c1, .int .u64 z0, .int .u64 z1] 42))
                  replace F_c := Lib.hid (F_c.out.alloc (.cells #[.int .u64 0, .int .u64 0, .int .u64 0, .int .u64 0, .int .u64 c0, .int .u64 c1, .int .u64 z0, .int .u64 z1] 42))
                  replace F_z := Lib.hid (F_z.out.alloc (.cells #[.int .u64 0, .int .u64 0, .int .u64 0, .int .u64 0, .int .u64 c0, .int .u64 c1, .int .u64 z0, .int .u64 z1] 42))
                  have F_p := Lib.hid (EightF.at w4 0 0 0 0 c0 c1 z0 z1 42 w4.heap.size rfl)
                  replace HBW := Lib.hid (HBW.out.alloc HBW.out.size (.cells #[.int .u64 0, .int .u64 0, .int .u64 0, .int .u64 0, .int .u64 c0, .int .u64 c1, .int .u64 z0, .int .u64 z1] 42))
                  go_loopw [15, 16, 17, 18, 19, 20, 21, 22, 23] (fun c15 c16 c17 c18 c19 c20 c21 c22 c23 wr => ∃ k : Nat, k ≤ 2 ∧ c15 = .int .i64 k ∧ Hid (SimIn w wr w4.heap.size P Q G a b r0 r1 s0 s1 c0 c1 z0 z1 k)) (fun c15 _ _ _ _ _ _ _ _ _ => 2 - (intOf c15).toNat)
                  case atStart => exact ⟨0, by omega, rfl, ⟨F_g.out, F_s.out, F_c.out, F_z.out, HBW.out, .inl ⟨rfl, F_p.out⟩⟩⟩
                  case round =>
                    clear F_g F_s F_c F_z F_p HBW
                    obtain ⟨k, hk, rfl, HK⟩ := hrel
                    have F_g := Lib.hid HK.out.box
                    have F_s := Lib.hid HK.out.pr
                    have F_c := Lib.hid HK.out.pc
                    have F_z := Lib.hid HK.out.pz
                    have HBW := Lib.hid HK.out.bel
                    rcases HK.out.st with ⟨rfl, hp⟩ | ⟨rfl, hp⟩ | ⟨rfl, hp⟩
                    case inl =>
                      have F_p := Lib.hid hp
                      clear HK hp
                      rw [show ((0 : Nat) : Int) = 0 from rfl]
                      obtain ⟨q0, q1, q2, -⟩ := id F_g.out
                      obtain ⟨q3, q4, q5, q6, -⟩ := id F_s.out
                      obtain ⟨q7, q8, q9, qa, -⟩ := id F_c.out
                      obtain ⟨qb, qc, qd, qe, -⟩ := id F_z.out
                      go_wp2_with fail
                      clear q0 q1 q2 q3 q4 q5 q6 q7 q8 q9 qa qb qc qd qe
                      refine (pow_ok P Q G G 0 1 _ HH.out hG gP U0.out HP0.out).mono ?_
                      rintro e w31 ⟨rfl, hb31⟩
                      replace F_g := Lib.hid (F_g.out.keep hb31)
                      replace F_s := Lib.hid (F_s.out.keep hb31)
                      replace F_c := Lib.hid (F_c.out.keep hb31)
                      replace F_z := Lib.hid (F_z.out.keep hb31)
                      replace F_p := Lib.hid (F_p.out.keep hb31)
                      replace HBW := Lib.hid (HBW.out.trans (hb31.mono HBW.out.size))
                      clear hb31
                      obtain ⟨q0, q1, q2, -⟩ := id F_g.out
                      obtain ⟨q3, q4, q5, q6, -⟩ := id F_s.out
                      obtain ⟨q7, q8, q9, qa, -⟩ := id F_c.out
                      obtain ⟨qb, qc, qd, qe, -⟩ := id F_z.out
                      go_wp2_with fail
                      clear q0 q1 q2 q3 q4 q5 q6 q7 q8 q9 qa qb qc qd qe
                      refine (estrip_gen _ hP hQ hG ha hb one_0 HST0.out).mono ?_
                      rintro e w32 ⟨rfl, hb32⟩
                      replace F_g := Lib.hid (F_g.out.keep hb32)
                      replace F_s := Lib.hid (F_s.out.keep hb32)
                      replace F_c := Lib.hid (F_c.out.keep hb32)
                      replace F_z := Lib.hid (F_z.out.keep hb32)
                      replace F_p := Lib.hid (F_p.out.keep hb32)
                      replace HBW := Lib.hid (HBW.out.trans (hb32.mono HBW.out.size))
                      clear hb32
                      obtain ⟨q0, q1, q2, -⟩ := id F_g.out
                      obtain ⟨q3, q4, q5, q6, -⟩ := id F_s.out
                      obtain ⟨q7, q8, q9, qa, -⟩ := id F_c.out
                      obtain ⟨qb, qc, qd, qe, -⟩ := id F_z.out
                      go_wp2_with fail
                      clear q0 q1 q2 q3 q4 q5 q6 q7 q8 q9 qa qb qc qd qe
                      replace F_g := Lib.hid F_g.out.drew
                      replace F_s := Lib.hid F_s.out.drew
                      replace F_c := Lib.hid F_c.out.drew
                      replace F_z := Lib.hid F_z.out.drew
                      replace F_p := Lib.hid F_p.out.drew
                      replace HBW := Lib.hid HBW.out.drew
                      have hS := And.intro F_g.out.s (And.intro F_s.out.s (And.intro F_c.out.s F_z.out.s))
                      refine wp_region_stage 11 (fun w' => SBox w' w.heap.size P Q G ∧ SPair w' (w.heap.size + 1) a b ∧ SPair w' (w.heap.size + 1 + 1) c0 c1 ∧ SPair w' (w.heap.size + 1 + 1 + 1) z0 z1) (by kernel_rfl) ?_
                      refine wpAnyB_take (i := 0) (some 109) (Op.load 24 (Operand.tmp 5)) 24 (v := ?_) ⟨_, rfl, rfl, rfl, rfl, rfl⟩ (by kernel_rfl) (by kernel_rfl) (by kernel_rfl) [11] (by kernel_rfl) (fun _ _ _ h => h) hS (fun w' hSw => ?_) ?_
                      rotate_left
                      · obtain ⟨⟨s0_, s1_, s2_⟩, ⟨s3_, s4_⟩, ⟨s5_, s6_⟩, ⟨s7_, s8_⟩⟩ := hSw
                        unfold bareOp
                        go_simp
                        try with_reducible rfl
                      simp only [Act.put, List.setIfInBounds_toArray, List.set_cons_zero, List.set_cons_succ]
                      refine wpAnyB_takeP (i := 1) (some 110) (Op.fieldAddr 24 (Operand.tmp 5) 2) 0 (v := ?_) ⟨_, rfl, rfl, rfl, rfl, rfl⟩ (by kernel_rfl) (by kernel_rfl) (by kernel_rfl) (by kernel_rfl) (fun _ _ _ h => h) (fun _ => hS) (fun w' => ?_) ?_
                      rotate_left
                      · unfold bareOp
                        go_simp
                        try with_reducible rfl
                      simp only [Act.put, List.setIfInBounds_toArray, List.set_cons_zero, List.set_cons_succ]
                      refine wpAnyB_take (i := 2) (some 111) (Op.load 22 (Operand.tmp 110)) 22 (v := ?_) ⟨_, rfl, rfl, rfl, rfl, rfl⟩ (by kernel_rfl) (by kernel_rfl) (by kernel_rfl) [11] (by kernel_rfl) (fun _ _ _ h => h) hS (fun w' hSw => ?_) ?_
                      rotate_left
                      · obtain ⟨⟨s0_, s1_, s2_⟩, ⟨s3_, s4_⟩, ⟨s5_, s6_⟩, ⟨s7_, s8_⟩⟩ := hSw
                        unfold bareOp
                        go_simp
                        try with_reducible rfl
                      simp only [Act.put, List.setIfInBounds_toArray, List.set_cons_zero, List.set_cons_succ]
                      refine wpAnyB_takeP (i := 3) (some 112) (Op.move (Operand.tmp 15)) 3 (v := ?_) ⟨_, rfl, rfl, rfl, rfl, rfl⟩ (by kernel_rfl) (by kernel_rfl) (by kernel_rfl) (by kernel_rfl) (fun _ _ _ h => h) (fun _ => hS) (fun w' => ?_) ?_
                      rotate_left
                      · unfold bareOp
                        go_simp
                        try with_reducible rfl
                      simp only [Act.put, List.setIfInBounds_toArray, List.set_cons_zero, List.set_cons_succ]
                      refine wpAnyB_takeP (i := 4) (some 113) (Op.indexAddr 39 (Operand.tmp 9) (Operand.tmp 112)) 0 (v := ?_) ⟨_, rfl, rfl, rfl, rfl, rfl⟩ (by kernel_rfl) (by kernel_rfl) (by kernel_rfl) (by kernel_rfl) (fun _ _ _ h => h) (fun _ => hS) (fun w' => ?_) ?_
                      rotate_left
                      · unfold bareOp
                        go_simp
                        try with_reducible rfl
                      simp only [Act.put, List.setIfInBounds_toArray, List.set_cons_zero, List.set_cons_succ]
                      refine wpAnyB_take (i := 5) (some 114) (Op.load 22 (Operand.tmp 113)) 22 (v := ?_) ⟨_, rfl, rfl, rfl, rfl, rfl⟩ (by kernel_rfl) (by kernel_rfl) (by kernel_rfl) [11] (by kernel_rfl) (fun _ _ _ h => h) hS (fun w' hSw => ?_) ?_
                      rotate_left
                      · obtain ⟨⟨s0_, s1_, s2_⟩, ⟨s3_, s4_⟩, ⟨s5_, s6_⟩, ⟨s7_, s8_⟩⟩ := hSw
                        unfold bareOp
                        go_simp
                        try with_reducible rfl
                      simp only [Act.put, List.setIfInBounds_toArray, List.set_cons_zero, List.set_cons_succ]
                      refine wpAnyB_takeP (i := 6) (some 115) (Op.fieldAddr 38 (Operand.tmp 7) 0) 0 (v := ?_) ⟨_, rfl, rfl, rfl, rfl, rfl⟩ (by kernel_rfl) (by kernel_rfl) (by kernel_rfl) (by kernel_rfl) (fun _ _ _ h => h) (fun _ => hS) (fun w' => ?_) ?_
                      rotate_left
                      · unfold bareOp
                        go_simp
                        try with_reducible rfl
                      simp only [Act.put, List.setIfInBounds_toArray, List.set_cons_zero, List.set_cons_succ]
                      refine wpAnyB_take (i := 7) (some 116) (Op.load 22 (Operand.tmp 115)) 22 (v := ?_) ⟨_, rfl, rfl, rfl, rfl, rfl⟩ (by kernel_rfl) (by kernel_rfl) (by kernel_rfl) [11] (by kernel_rfl) (fun _ _ _ h => h) hS (fun w' hSw => ?_) ?_
                      rotate_left
                      · obtain ⟨⟨s0_, s1_, s2_⟩, ⟨s3_, s4_⟩, ⟨s5_, s6_⟩, ⟨s7_, s8_⟩⟩ := hSw
                        unfold bareOp
                        go_simp
                        try with_reducible rfl
                      simp only [Act.put, List.setIfInBounds_toArray, List.set_cons_zero, List.set_cons_succ]
                      refine wpAnyB_takeP (i := 8) (some 117) (Op.move (Operand.tmp 15)) 3 (v := ?_) ⟨_, rfl, rfl, rfl, rfl, rfl⟩ (by kernel_rfl) (by kernel_rfl) (by kernel_rfl) (by kernel_rfl) (fun _ _ _ h => h) (fun _ => hS) (fun w' => ?_) ?_
                      rotate_left
                      · unfold bareOp
                        go_simp
                        try with_reducible rfl
                      simp only [Act.put, List.setIfInBounds_toArray, List.set_cons_zero, List.set_cons_succ]
                      refine wpAnyB_takeP (i := 9) (some 118) (Op.indexAddr 39 (Operand.tmp 8) (Operand.tmp 117)) 0 (v := ?_) ⟨_, rfl, rfl, rfl, rfl, rfl⟩ (by kernel_rfl) (by kernel_rfl) (by kernel_rfl) (by kernel_rfl) (fun _ _ _ h => h) (fun _ => hS) (fun w' => ?_) ?_
                      rotate_left
                      · unfold bareOp
                        go_simp
                        try with_reducible rfl
                      simp only [Act.put, List.setIfInBounds_toArray, List.set_cons_zero, List.set_cons_succ]
                      refine wpAnyB_take (i := 10) (some 119) (Op.load 22 (Operand.tmp 118)) 22 (v := ?_) ⟨_, rfl, rfl, rfl, rfl, rfl⟩ (by kernel_rfl) (by kernel_rfl) (by kernel_rfl) [11] (by kernel_rfl) (fun _ _ _ h => h) hS (fun w' hSw => ?_) ?_
                      rotate_left
                      · obtain ⟨⟨s0_, s1_, s2_⟩, ⟨s3_, s4_⟩, ⟨s5_, s6_⟩, ⟨s7_, s8_⟩⟩ := hSw
                        unfold bareOp
                        go_simp
                        try with_reducible rfl
                      simp only [Act.put, List.setIfInBounds_toArray, List.set_cons_zero, List.set_cons_succ]
                      refine wpAnyB_only (i := 11) (some 120) (Op.call { callee := Callee.value (Operand.func 14), args := #[Operand.tmp 109, Operand.tmp 111, Operand.tmp 114, Operand.tmp 116, Operand.tmp 119], argTypes := #[24, 22, 22, 22, 22] }) 44 ⟨_, rfl, rfl, rfl, rfl, rfl⟩ (by kernel_rfl) (fun K hK => ?_)
                      unfold bareOp
                      go_wp2_with (go_at_call 14; refine (divide_ok _ HH.out hG gP Uz0.out ha aP Uc0.out HU_r0.out HV_r0.out HI_r0.out HR_r0.out).mono ?_; rintro e w33 ⟨rfl, hb33⟩)
                      replace F_g := Lib.hid (F_g.out.keep hb33)
                      replace F_s := Lib.hid (F_s.out.keep hb33)
                      replace F_c := Lib.hid (F_c.out.keep hb33)
                      replace F_z := Lib.hid (F_z.out.keep hb33)
                      replace F_p := Lib.hid (F_p.out.keep hb33)
                      replace HBW := Lib.hid (HBW.out.trans (hb33.mono HBW.out.size))
                      clear hb33
                      replace hS := And.intro F_g.out.s (And.intro F_s.out.s (And.intro F_c.out.s F_z.out.s))
                      refine hK.out _ _ (fun h => absurd (h.symm.trans (by kernel_rfl : _ = true)) (by decide)) ?_
                      clear hK K
                      try simp only [Act.put, List.setIfInBounds_toArray, List.set_cons_zero, List.set_cons_succ]
                      refine wpAnyB_takeP (i := 12) (some 108) (Op.move (Operand.tmp 120)) 44 (v := ?_) ⟨_, rfl, rfl, rfl, rfl, rfl⟩ (by kernel_rfl) (by kernel_rfl) (by kernel_rfl) (by kernel_rfl) (fun _ _ _ h => h) (fun h => absurd (h.symm.trans (by kernel_rfl : _ = true)) (by decide)) (fun w' => ?_) ?_
                      rotate_left
                      · unfold bareOp
                        go_simp
                        try with_reducible rfl
                      simp only [Act.put, List.setIfInBounds_toArray, List.set_cons_zero, List.set_cons_succ]
                      refine wpAnyB_takeP (i := 13) (some 121) (Op.extract (Operand.tmp 108) 0) 22 (v := ?_) ⟨_, rfl, rfl, rfl, rfl, rfl⟩ (by kernel_rfl) (by kernel_rfl) (by kernel_rfl) (by kernel_rfl) (fun _ _ _ h => h) (fun h => absurd (h.symm.trans (by kernel_rfl : _ = true)) (by decide)) (fun w' => ?_) ?_
                      rotate_left
                      · unfold bareOp
                        go_simp
                        try with_reducible rfl
                      simp only [Act.put, List.setIfInBounds_toArray, List.set_cons_zero, List.set_cons_succ]
                      refine wpAnyB_takeP (i := 14) (some 122) (Op.extract (Operand.tmp 108) 1) 4 (v := ?_) ⟨_, rfl, rfl, rfl, rfl, rfl⟩ (by kernel_rfl) (by kernel_rfl) (by kernel_rfl) (by kernel_rfl) (fun _ _ _ h => h) (fun h => absurd (h.symm.trans (by kernel_rfl : _ = true)) (by decide)) (fun w' => ?_) ?_
                      rotate_left
                      · unfold bareOp
                        go_simp
                        try with_reducible rfl
                      simp only [Act.put, List.setIfInBounds_toArray, List.set_cons_zero, List.set_cons_succ]
                      refine wpAnyB_takeP (i := 15) (some 20) (Op.assign (Operand.tmp 121)) 22 (v := ?_) ⟨_, rfl, rfl, rfl, rfl, rfl⟩ (by kernel_rfl) (by kernel_rfl) (by kernel_rfl) (by kernel_rfl) (fun _ _ _ h => h) (fun h => absurd (h.symm.trans (by kernel_rfl : _ = true)) (by decide)) (fun w' => ?_) ?_
                      rotate_left
                      · unfold bareOp
                        go_simp
                        try with_reducible rfl
                      simp only [Act.put, List.setIfInBounds_toArray, List.set_cons_zero, List.set_cons_succ]
                      refine wpAnyB_takeP (i := 16) (some 21) (Op.assign (Operand.tmp 122)) 4 (v := ?_) ⟨_, rfl, rfl, rfl, rfl, rfl⟩ (by kernel_rfl) (by kernel_rfl) (by kernel_rfl) (by kernel_rfl) (fun _ _ _ h => h) (fun h => absurd (h.symm.trans (by kernel_rfl : _ = true)) (by decide)) (fun w' => ?_) ?_
                      rotate_left
                      · unfold bareOp
                        go_simp
                        try with_reducible rfl
                      simp only [Act.put, List.setIfInBounds_toArray, List.set_cons_zero, List.set_cons_succ]
                      refine wpAnyB_done (by kernel_rfl) ?_ _
                      clear hS
                      obtain ⟨q0, q1, q2, -⟩ := id F_g.out
                      obtain ⟨q3, q4, q5, q6, -⟩ := id F_s.out
                      obtain ⟨q7, q8, q9, qa, -⟩ := id F_c.out
                      obtain ⟨qb, qc, qd, qe, -⟩ := id F_z.out
                      go_wp2_with fail
                      clear q0 q1 q2 q3 q4 q5 q6 q7 q8 q9 qa qb qc qd qe
                      replace F_g := Lib.hid F_g.out.drew
                      replace F_s := Lib.hid F_s.out.drew
                      replace F_c := Lib.hid F_c.out.drew
                      replace F_z := Lib.hid F_z.out.drew
                      replace F_p := Lib.hid F_p.out.drew
                      replace HBW := Lib.hid HBW.out.drew
                      have hS := And.intro F_g.out.s (And.intro F_s.out.s (And.intro F_c.out.s F_z.out.s))
                      refine wp_region_stage 9 (fun w' => SBox w' w.heap.size P Q G ∧ SPair w' (w.heap.size + 1) a b ∧ SPair w' (w.heap.size + 1 + 1) c0 c1 ∧ SPair w' (w.heap.size + 1 + 1 + 1) z0 z1) (by kernel_rfl) ?_
                      refine wpAnyB_take (i := 0) (some 124) (Op.load 24 (Operand.tmp 5)) 24 (v := ?_) ⟨_, rfl, rfl, rfl, rfl, rfl⟩ (by kernel_rfl) (by kernel_rfl) (by kernel_rfl) [9] (by kernel_rfl) (fun _ _ _ h => h) hS (fun w' hSw => ?_) ?_
                      rotate_left
                      · obtain ⟨⟨s0_, s1_, s2_⟩, ⟨s3_, s4_⟩, ⟨s5_, s6_⟩, ⟨s7_, s8_⟩⟩ := hSw
                        unfold bareOp
                        go_simp
                        try with_reducible rfl
                      simp only [Act.put, List.setIfInBounds_toArray, List.set_cons_zero, List.set_cons_succ]
                      refine wpAnyB_takeP (i := 1) (some 125) (Op.move (Operand.tmp 1)) 22 (v := ?_) ⟨_, rfl, rfl, rfl, rfl, rfl⟩ (by kernel_rfl) (by kernel_rfl) (by kernel_rfl) (by kernel_rfl) (fun _ _ _ h => h) (fun _ => hS) (fun w' => ?_) ?_
                      rotate_left
                      · unfold bareOp
                        go_simp
                        try with_reducible rfl
                      simp only [Act.put, List.setIfInBounds_toArray, List.set_cons_zero, List.set_cons_succ]
                      refine wpAnyB_takeP (i := 2) (some 126) (Op.move (Operand.tmp 15)) 3 (v := ?_) ⟨_, rfl, rfl, rfl, rfl, rfl⟩ (by kernel_rfl) (by kernel_rfl) (by kernel_rfl) (by kernel_rfl) (fun _ _ _ h => h) (fun _ => hS) (fun w' => ?_) ?_
                      rotate_left
                      · unfold bareOp
                        go_simp
                        try with_reducible rfl
                      simp only [Act.put, List.setIfInBounds_toArray, List.set_cons_zero, List.set_cons_succ]
                      refine wpAnyB_takeP (i := 3) (some 127) (Op.indexAddr 39 (Operand.tmp 9) (Operand.tmp 126)) 0 (v := ?_) ⟨_, rfl, rfl, rfl, rfl, rfl⟩ (by kernel_rfl) (by kernel_rfl) (by kernel_rfl) (by kernel_rfl) (fun _ _ _ h => h) (fun _ => hS) (fun w' => ?_) ?_
                      rotate_left
                      · unfold bareOp
                        go_simp
                        try with_reducible rfl
                      simp only [Act.put, List.setIfInBounds_toArray, List.set_cons_zero, List.set_cons_succ]
                      refine wpAnyB_take (i := 4) (some 128) (Op.load 22 (Operand.tmp 127)) 22 (v := ?_) ⟨_, rfl, rfl, rfl, rfl, rfl⟩ (by kernel_rfl) (by kernel_rfl) (by kernel_rfl) [9] (by kernel_rfl) (fun _ _ _ h => h) hS (fun w' hSw => ?_) ?_
                      rotate_left
                      · obtain ⟨⟨s0_, s1_, s2_⟩, ⟨s3_, s4_⟩, ⟨s5_, s6_⟩, ⟨s7_, s8_⟩⟩ := hSw
                        unfold bareOp
                        go_simp
                        try with_reducible rfl
                      simp only [Act.put, List.setIfInBounds_toArray, List.set_cons_zero, List.set_cons_succ]
                      refine wpAnyB_takeP (i := 5) (some 129) (Op.move (Operand.tmp 18)) 22 (v := ?_) ⟨_, rfl, rfl, rfl, rfl, rfl⟩ (by kernel_rfl) (by kernel_rfl) (by kernel_rfl) (by kernel_rfl) (fun _ _ _ h => h) (fun _ => hS) (fun w' => ?_) ?_
                      rotate_left
                      · unfold bareOp
                        go_simp
                        try with_reducible rfl
                      simp only [Act.put, List.setIfInBounds_toArray, List.set_cons_zero, List.set_cons_succ]
                      refine wpAnyB_takeP (i := 6) (some 130) (Op.move (Operand.tmp 15)) 3 (v := ?_) ⟨_, rfl, rfl, rfl, rfl, rfl⟩ (by kernel_rfl) (by kernel_rfl) (by kernel_rfl) (by kernel_rfl) (fun _ _ _ h => h) (fun _ => hS) (fun w' => ?_) ?_
                      rotate_left
                      · unfold bareOp
                        go_simp
                        try with_reducible rfl
                      simp only [Act.put, List.setIfInBounds_toArray, List.set_cons_zero, List.set_cons_succ]
                      refine wpAnyB_takeP (i := 7) (some 131) (Op.indexAddr 39 (Operand.tmp 8) (Operand.tmp 130)) 0 (v := ?_) ⟨_, rfl, rfl, rfl, rfl, rfl⟩ (by kernel_rfl) (by kernel_rfl) (by kernel_rfl) (by kernel_rfl) (fun _ _ _ h => h) (fun _ => hS) (fun w' => ?_) ?_
                      rotate_left
                      · unfold bareOp
                        go_simp
                        try with_reducible rfl
                      simp only [Act.put, List.setIfInBounds_toArray, List.set_cons_zero, List.set_cons_succ]
                      refine wpAnyB_take (i := 8) (some 132) (Op.load 22 (Operand.tmp 131)) 22 (v := ?_) ⟨_, rfl, rfl, rfl, rfl, rfl⟩ (by kernel_rfl) (by kernel_rfl) (by kernel_rfl) [9] (by kernel_rfl) (fun _ _ _ h => h) hS (fun w' hSw => ?_) ?_
                      rotate_left
                      · obtain ⟨⟨s0_, s1_, s2_⟩, ⟨s3_, s4_⟩, ⟨s5_, s6_⟩, ⟨s7_, s8_⟩⟩ := hSw
                        unfold bareOp
                        go_simp
                        try with_reducible rfl
                      simp only [Act.put, List.setIfInBounds_toArray, List.set_cons_zero, List.set_cons_succ]
                      refine wpAnyB_only (i := 9) (some 133) (Op.call { callee := Callee.value (Operand.func 14), args := #[Operand.tmp 124, Operand.tmp 125, Operand.tmp 128, Operand.tmp 129, Operand.tmp 132], argTypes := #[24, 22, 22, 22, 22] }) 44 ⟨_, rfl, rfl, rfl, rfl, rfl⟩ (by kernel_rfl) (fun K hK => ?_)
                      unfold bareOp
                      go_wp2_with (go_at_call 14; refine (divide_ok _ HH.out hy yP Uz0.out hb bP Uc0.out HU_s0.out HV_s0.out HI_s0.out HR_s0.out).mono ?_; rintro e w34 ⟨rfl, hb34⟩)
                      replace F_g := Lib.hid (F_g.out.keep hb34)
                      replace F_s := Lib.hid (F_s.out.keep hb34)
                      replace F_c := Lib.hid (F_c.out.keep hb34)
                      replace F_z := Lib.hid (F_z.out.keep hb34)
                      replace F_p := Lib.hid (F_p.out.keep hb34)
                      replace HBW := Lib.hid (HBW.out.trans (hb34.mono HBW.out.size))
                      clear hb34
                      replace hS := And.intro F_g.out.s (And.intro F_s.out.s (And.intro F_c.out.s F_z.out.s))
                      refine hK.out _ _ (fun h => absurd (h.symm.trans (by kernel_rfl : _ = true)) (by decide)) ?_
                      clear hK K
                      try simp only [Act.put, List.setIfInBounds_toArray, List.set_cons_zero, List.set_cons_succ]
                      refine wpAnyB_takeP (i := 10) (some 123) (Op.move (Operand.tmp 133)) 44 (v := ?_) ⟨_, rfl, rfl, rfl, rfl, rfl⟩ (by kernel_rfl) (by kernel_rfl) (by kernel_rfl) (by kernel_rfl) (fun _ _ _ h => h) (fun h => absurd (h.symm.trans (by kernel_rfl : _ = true)) (by decide)) (fun w' => ?_) ?_
                      rotate_left
                      · unfold bareOp
                        go_simp
                        try with_reducible rfl
                      simp only [Act.put, List.setIfInBounds_toArray, List.set_cons_zero, List.set_cons_succ]
                      refine wpAnyB_takeP (i := 11) (some 134) (Op.extract (Operand.tmp 123) 0) 22 (v := ?_) ⟨_, rfl, rfl, rfl, rfl, rfl⟩ (by kernel_rfl) (by kernel_rfl) (by kernel_rfl) (by kernel_rfl) (fun _ _ _ h => h) (fun h => absurd (h.symm.trans (by kernel_rfl : _ = true)) (by decide)) (fun w' => ?_) ?_
                      rotate_left
                      · unfold bareOp
                        go_simp
                        try with_reducible rfl
                      simp only [Act.put, List.setIfInBounds_toArray, List.set_cons_zero, List.set_cons_succ]
                      refine wpAnyB_takeP (i := 12) (some 135) (Op.extract (Operand.tmp 123) 1) 4 (v := ?_) ⟨_, rfl, rfl, rfl, rfl, rfl⟩ (by kernel_rfl) (by kernel_rfl) (by kernel_rfl) (by kernel_rfl) (fun _ _ _ h => h) (fun h => absurd (h.symm.trans (by kernel_rfl : _ = true)) (by decide)) (fun w' => ?_) ?_
                      rotate_left
                      · unfold bareOp
                        go_simp
                        try with_reducible rfl
                      simp only [Act.put, List.setIfInBounds_toArray, List.set_cons_zero, List.set_cons_succ]
                      refine wpAnyB_takeP (i := 13) (some 22) (Op.assign (Operand.tmp 134)) 22 (v := ?_) ⟨_, rfl, rfl, rfl, rfl, rfl⟩ (by kernel_rfl) (by kernel_rfl) (by kernel_rfl) (by kernel_rfl) (fun _ _ _ h => h) (fun h => absurd (h.symm.trans (by kernel_rfl : _ = true)) (by decide)) (fun w' => ?_) ?_
                      rotate_left
                      · unfold bareOp
                        go_simp
                        try with_reducible rfl
                      simp only [Act.put, List.setIfInBounds_toArray, List.set_cons_zero, List.set_cons_succ]
                      refine wpAnyB_takeP (i := 14) (some 23) (Op.assign (Operand.tmp 135)) 4 (v := ?_) ⟨_, rfl, rfl, rfl, rfl, rfl⟩ (by kernel_rfl) (by kernel_rfl) (by kernel_rfl) (by kernel_rfl) (fun _ _ _ h => h) (fun h => absurd (h.symm.trans (by kernel_rfl : _ = true)) (by decide)) (fun w' => ?_) ?_
                      rotate_left
                      · unfold bareOp
                        go_simp
                        try with_reducible rfl
                      simp only [Act.put, List.setIfInBounds_toArray, List.set_cons_zero, List.set_cons_succ]
                      refine wpAnyB_done (by kernel_rfl) ?_ _
                      clear hS
                      obtain ⟨q0, q1, q2, -⟩ := id F_g.out
                      obtain ⟨q3, q4, q5, q6, -⟩ := id F_s.out
                      obtain ⟨q7, q8, q9, qa, -⟩ := id F_c.out
                      obtain ⟨qb, qc, qd, qe, -⟩ := id F_z.out
                      obtain ⟨⟨p0, p1, p2_, p3_, -, -, -, -, -⟩, pf⟩ := id F_p.out
                      have pf0 := pf 0
                      have pf1 := pf 1
                      have pf2 := pf 2
                      have pf3 := pf 3
                      clear pf
                      go_wp2_with fail
                      go_roundw
                      case rel => exact ⟨1, by omega, by go_num, ⟨(F_g.out.far (c := w4.heap.size) (o := 0) (by omega) (.int .u64 r0)).far (c := w4.heap.size) (o := 2) (by omega) (.int .u64 s0), (F_s.out.far (c := w4.heap.size) (o := 0) (by omega) (.int .u64 r0)).far (c := w4.heap.size) (o := 2) (by omega) (.int .u64 s0), (F_c.out.far (c := w4.heap.size) (o := 0) (by omega) (.int .u64 r0)).far (c := w4.heap.size) (o := 2) (by omega) (.int .u64 s0), (F_z.out.far (c := w4.heap.size) (o := 0) (by omega) (.int .u64 r0)).far (c := w4.heap.size) (o := 2) (by omega) (.int .u64 s0), (HBW.out.setCell (p := ⟨w4.heap.size, 0, none⟩) (show w.heap.size ≤ w4.heap.size by omega) (.int .u64 r0)).setCell (p := ⟨w4.heap.size, 2, none⟩) (show w.heap.size ≤ w4.heap.size by omega) (.int .u64 s0), .inr (.inl ⟨rfl, F_p.out.set0 r0 s0⟩)⟩⟩
                      case measure => simp [intOf]
                    case inr.inl =>
                      have F_p := Lib.hid hp
                      clear HK hp
                      rw [show ((1 : Nat) : Int) = 1 from rfl]
                      obtain ⟨q0, q1, q2, -⟩ := id F_g.out
                      obtain ⟨q3, q4, q5, q6, -⟩ := id F_s.out
                      obtain ⟨q7, q8, q9, qa, -⟩ := id F_c.out
                      obtain ⟨qb, qc, qd, qe, -⟩ := id F_z.out
                      go_wp2_with fail
                      clear q0 q1 q2 q3 q4 q5 q6 q7 q8 q9 qa qb qc qd qe
                      refine (pow_ok P Q G G 1 G _ HH.out hG gP U1.out HP1.out).mono ?_
                      rintro e w31 ⟨rfl, hb31⟩
                      replace F_g := Lib.hid (F_g.out.keep hb31)
                      replace F_s := Lib.hid (F_s.out.keep hb31)
                      replace F_c := Lib.hid (F_c.out.keep hb31)
                      replace F_z := Lib.hid (F_z.out.keep hb31)
                      replace F_p := Lib.hid (F_p.out.keep hb31)
                      replace HBW := Lib.hid (HBW.out.trans (hb31.mono HBW.out.size))
                      clear hb31
                      obtain ⟨q0, q1, q2, -⟩ := id F_g.out
                      obtain ⟨q3, q4, q5, q6, -⟩ := id F_s.out
                      obtain ⟨q7, q8, q9, qa, -⟩ := id F_c.out
                      obtain ⟨qb, qc, qd, qe, -⟩ := id F_z.out
                      go_wp2_with fail
                      clear q0 q1 q2 q3 q4 q5 q6 q7 q8 q9 qa qb qc qd qe
                      refine (estrip_gen _ hP hQ hG ha hb hG HST1.out).mono ?_
                      rintro e w32 ⟨rfl, hb32⟩
                      replace F_g := Lib.hid (F_g.out.keep hb32)
                      replace F_s := Lib.hid (F_s.out.keep hb32)
                      replace F_c := Lib.hid (F_c.out.keep hb32)
                      replace F_z := Lib.hid (F_z.out.keep hb32)
                      replace F_p := Lib.hid (F_p.out.keep hb32)
                      replace HBW := Lib.hid (HBW.out.trans (hb32.mono HBW.out.size))
                      clear hb32
                      obtain ⟨q0, q1, q2, -⟩ := id F_g.out
                      obtain ⟨q3, q4, q5, q6, -⟩ := id F_s.out
                      obtain ⟨q7, q8, q9, qa, -⟩ := id F_c.out
                      obtain ⟨qb, qc, qd, qe, -⟩ := id F_z.out
                      go_wp2_with fail
                      clear q0 q1 q2 q3 q4 q5 q6 q7 q8 q9 qa qb qc qd qe
                      replace F_g := Lib.hid F_g.out.drew
                      replace F_s := Lib.hid F_s.out.drew
                      replace F_c := Lib.hid F_c.out.drew
                      replace F_z := Lib.hid F_z.out.drew
                      replace F_p := Lib.hid F_p.out.drew
                      replace HBW := Lib.hid HBW.out.drew
                      have hS := And.intro F_g.out.s (And.intro F_s.out.s (And.intro F_c.out.s F_z.out.s))
                      refine wp_region_stage 11 (fun w' => SBox w' w.heap.size P Q G ∧ SPair w' (w.heap.size + 1) a b ∧ SPair w' (w.heap.size + 1 + 1) c0 c1 ∧ SPair w' (w.heap.size + 1 + 1 + 1) z0 z1) (by kernel_rfl) ?_
                      refine wpAnyB_take (i := 0) (some 109) (Op.load 24 (Operand.tmp 5)) 24 (v := ?_) ⟨_, rfl, rfl, rfl, rfl, rfl⟩ (by kernel_rfl) (by kernel_rfl) (by kernel_rfl) [11] (by kernel_rfl) (fun _ _ _ h => h) hS (fun w' hSw => ?_) ?_
                      rotate_left
                      · obtain ⟨⟨s0_, s1_, s2_⟩, ⟨s3_, s4_⟩, ⟨s5_, s6_⟩, ⟨s7_, s8_⟩⟩ := hSw
                        unfold bareOp
                        go_simp
                        try with_reducible rfl
                      simp only [Act.put, List.setIfInBounds_toArray, List.set_cons_zero, List.set_cons_succ]
                      refine wpAnyB_takeP (i := 1) (some 110) (Op.fieldAddr 24 (Operand.tmp 5) 2) 0 (v := ?_) ⟨_, rfl, rfl, rfl, rfl, rfl⟩ (by kernel_rfl) (by kernel_rfl) (by kernel_rfl) (by kernel_rfl) (fun _ _ _ h => h) (fun _ => hS) (fun w' => ?_) ?_
                      rotate_left
                      · unfold bareOp
                        go_simp
                        try with_reducible rfl
                      simp only [Act.put, List.setIfInBounds_toArray, List.set_cons_zero, List.set_cons_succ]
                      refine wpAnyB_take (i := 2) (some 111) (Op.load 22 (Operand.tmp 110)) 22 (v := ?_) ⟨_, rfl, rfl, rfl, rfl, rfl⟩ (by kernel_rfl) (by kernel_rfl) (by kernel_rfl) [11] (by kernel_rfl) (fun _ _ _ h => h) hS (fun w' hSw => ?_) ?_
                      rotate_left
                      · obtain ⟨⟨s0_, s1_, s2_⟩, ⟨s3_, s4_⟩, ⟨s5_, s6_⟩, ⟨s7_, s8_⟩⟩ := hSw
                        unfold bareOp
                        go_simp
                        try with_reducible rfl
                      simp only [Act.put, List.setIfInBounds_toArray, List.set_cons_zero, List.set_cons_succ]
                      refine wpAnyB_takeP (i := 3) (some 112) (Op.move (Operand.tmp 15)) 3 (v := ?_) ⟨_, rfl, rfl, rfl, rfl, rfl⟩ (by kernel_rfl) (by kernel_rfl) (by kernel_rfl) (by kernel_rfl) (fun _ _ _ h => h) (fun _ => hS) (fun w' => ?_) ?_
                      rotate_left
                      · unfold bareOp
                        go_simp
                        try with_reducible rfl
                      simp only [Act.put, List.setIfInBounds_toArray, List.set_cons_zero, List.set_cons_succ]
                      refine wpAnyB_takeP (i := 4) (some 113) (Op.indexAddr 39 (Operand.tmp 9) (Operand.tmp 112)) 0 (v := ?_) ⟨_, rfl, rfl, rfl, rfl, rfl⟩ (by kernel_rfl) (by kernel_rfl) (by kernel_rfl) (by kernel_rfl) (fun _ _ _ h => h) (fun _ => hS) (fun w' => ?_) ?_
                      rotate_left
                      · unfold bareOp
                        go_simp
                        try with_reducible rfl
                      simp only [Act.put, List.setIfInBounds_toArray, List.set_cons_zero, List.set_cons_succ]
                      refine wpAnyB_take (i := 5) (some 114) (Op.load 22 (Operand.tmp 113)) 22 (v := ?_) ⟨_, rfl, rfl, rfl, rfl, rfl⟩ (by kernel_rfl) (by kernel_rfl) (by kernel_rfl) [11] (by kernel_rfl) (fun _ _ _ h => h) hS (fun w' hSw => ?_) ?_
                      rotate_left
                      · obtain ⟨⟨s0_, s1_, s2_⟩, ⟨s3_, s4_⟩, ⟨s5_, s6_⟩, ⟨s7_, s8_⟩⟩ := hSw
                        unfold bareOp
                        go_simp
                        try with_reducible rfl
                      simp only [Act.put, List.setIfInBounds_toArray, List.set_cons_zero, List.set_cons_succ]
                      refine wpAnyB_takeP (i := 6) (some 115) (Op.fieldAddr 38 (Operand.tmp 7) 0) 0 (v := ?_) ⟨_, rfl, rfl, rfl, rfl, rfl⟩ (by kernel_rfl) (by kernel_rfl) (by kernel_rfl) (by kernel_rfl) (fun _ _ _ h => h) (fun _ => hS) (fun w' => ?_) ?_
                      rotate_left
                      · unfold bareOp
                        go_simp
                        try with_reducible rfl
                      simp only [Act.put, List.setIfInBounds_toArray, List.set_cons_zero, List.set_cons_succ]
                      refine wpAnyB_take (i := 7) (some 116) (Op.load 22 (Operand.tmp 115)) 22 (v := ?_) ⟨_, rfl, rfl, rfl, rfl, rfl⟩ (by kernel_rfl) (by kernel_rfl) (by kernel_rfl) [11] (by kernel_rfl) (fun _ _ _ h => h) hS (fun w' hSw => ?_) ?_
                      rotate_left
                      · obtain ⟨⟨s0_, s1_, s2_⟩, ⟨s3_, s4_⟩, ⟨s5_, s6_⟩, ⟨s7_, s8_⟩⟩ := hSw
                        unfold bareOp
                        go_simp
                        try with_reducible rfl
                      simp only [Act.put, List.setIfInBounds_toArray, List.set_cons_zero, List.set_cons_succ]
                      refine wpAnyB_takeP (i := 8) (some 117) (Op.move (Operand.tmp 15)) 3 (v := ?_) ⟨_, rfl, rfl, rfl, rfl, rfl⟩ (by kernel_rfl) (by kernel_rfl) (by kernel_rfl) (by kernel_rfl) (fun _ _ _ h => h) (fun _ => hS) (fun w' => ?_) ?_
                      rotate_left
                      · unfold bareOp
                        go_simp
                        try with_reducible rfl
                      simp only [Act.put, List.setIfInBounds_toArray, List.set_cons_zero, List.set_cons_succ]
                      refine wpAnyB_takeP (i := 9) (some 118) (Op.indexAddr 39 (Operand.tmp 8) (Operand.tmp 117)) 0 (v := ?_) ⟨_, rfl, rfl, rfl, rfl, rfl⟩ (by kernel_rfl) (by kernel_rfl) (by kernel_rfl) (by kernel_rfl) (fun _ _ _ h => h) (fun _ => hS) (fun w' => ?_) ?_
                      rotate_left
                      · unfold bareOp
                        go_simp
                        try with_reducible rfl
                      simp only [Act.put, List.setIfInBounds_toArray, List.set_cons_zero, List.set_cons_succ]
                      refine wpAnyB_take (i := 10) (some 119) (Op.load 22 (Operand.tmp 118)) 22 (v := ?_) ⟨_, rfl, rfl, rfl, rfl, rfl⟩ (by kernel_rfl) (by kernel_rfl) (by kernel_rfl) [11] (by kernel_rfl) (fun _ _ _ h => h) hS (fun w' hSw => ?_) ?_
                      rotate_left
                      · obtain ⟨⟨s0_, s1_, s2_⟩, ⟨s3_, s4_⟩, ⟨s5_, s6_⟩, ⟨s7_, s8_⟩⟩ := hSw
                        unfold bareOp
                        go_simp
                        try with_reducible rfl
                      simp only [Act.put, List.setIfInBounds_toArray, List.set_cons_zero, List.set_cons_succ]
                      refine wpAnyB_only (i := 11) (some 120) (Op.call { callee := Callee.value (Operand.func 14), args := #[Operand.tmp 109, Operand.tmp 111, Operand.tmp 114, Operand.tmp 116, Operand.tmp 119], argTypes := #[24, 22, 22, 22, 22] }) 44 ⟨_, rfl, rfl, rfl, rfl, rfl⟩ (by kernel_rfl) (fun K hK => ?_)
                      unfold bareOp
                      go_wp2_with (go_at_call 14; refine (divide_ok _ HH.out hG gP Uz1.out ha aP Uc1.out HU_r1.out HV_r1.out HI_r1.out HR_r1.out).mono ?_; rintro e w33 ⟨rfl, hb33⟩)
                      replace F_g := Lib.hid (F_g.out.keep hb33)
                      replace F_s := Lib.hid (F_s.out.keep hb33)
                      replace F_c := Lib.hid (F_c.out.keep hb33)
                      replace F_z := Lib.hid (F_z.out.keep hb33)
                      replace F_p := Lib.hid (F_p.out.keep hb33)
                      replace HBW := Lib.hid (HBW.out.trans (hb33.mono HBW.out.size))
                      clear hb33
                      replace hS := And.intro F_g.out.s (And.intro F_s.out.s (And.intro F_c.out.s F_z.out.s))
                      refine hK.out _ _ (fun h => absurd (h.symm.trans (by kernel_rfl : _ = true)) (by decide)) ?_
                      clear hK K
                      try simp only [Act.put, List.setIfInBounds_toArray, List.set_cons_zero, List.set_cons_succ]
                      refine wpAnyB_takeP (i := 12) (some 108) (Op.move (Operand.tmp 120)) 44 (v := ?_) ⟨_, rfl, rfl, rfl, rfl, rfl⟩ (by kernel_rfl) (by kernel_rfl) (by kernel_rfl) (by kernel_rfl) (fun _ _ _ h => h) (fun h => absurd (h.symm.trans (by kernel_rfl : _ = true)) (by decide)) (fun w' => ?_) ?_
                      rotate_left
                      · unfold bareOp
                        go_simp
                        try with_reducible rfl
                      simp only [Act.put, List.setIfInBounds_toArray, List.set_cons_zero, List.set_cons_succ]
                      refine wpAnyB_takeP (i := 13) (some 121) (Op.extract (Operand.tmp 108) 0) 22 (v := ?_) ⟨_, rfl, rfl, rfl, rfl, rfl⟩ (by kernel_rfl) (by kernel_rfl) (by kernel_rfl) (by kernel_rfl) (fun _ _ _ h => h) (fun h => absurd (h.symm.trans (by kernel_rfl : _ = true)) (by decide)) (fun w' => ?_) ?_
                      rotate_left
                      · unfold bareOp
                        go_simp
                        try with_reducible rfl
                      simp only [Act.put, List.setIfInBounds_toArray, List.set_cons_zero, List.set_cons_succ]
                      refine wpAnyB_takeP (i := 14) (some 122) (Op.extract (Operand.tmp 108) 1) 4 (v := ?_) ⟨_, rfl, rfl, rfl, rfl, rfl⟩ (by kernel_rfl) (by kernel_rfl) (by kernel_rfl) (by kernel_rfl) (fun _ _ _ h => h) (fun h => absurd (h.symm.trans (by kernel_rfl : _ = true)) (by decide)) (fun w' => ?_) ?_
                      rotate_left
                      · unfold bareOp
                        go_simp
                        try with_reducible rfl
                      simp only [Act.put, List.setIfInBounds_toArray, List.set_cons_zero, List.set_cons_succ]
                      refine wpAnyB_takeP (i := 15) (some 20) (Op.assign (Operand.tmp 121)) 22 (v := ?_) ⟨_, rfl, rfl, rfl, rfl, rfl⟩ (by kernel_rfl) (by kernel_rfl) (by kernel_rfl) (by kernel_rfl) (fun _ _ _ h => h) (fun h => absurd (h.symm.trans (by kernel_rfl : _ = true)) (by decide)) (fun w' => ?_) ?_
                      rotate_left
                      · unfold bareOp
                        go_simp
                        try with_reducible rfl
                      simp only [Act.put, List.setIfInBounds_toArray, List.set_cons_zero, List.set_cons_succ]
                      refine wpAnyB_takeP (i := 16) (some 21) (Op.assign (Operand.tmp 122)) 4 (v := ?_) ⟨_, rfl, rfl, rfl, rfl, rfl⟩ (by kernel_rfl) (by kernel_rfl) (by kernel_rfl) (by kernel_rfl) (fun _ _ _ h => h) (fun h => absurd (h.symm.trans (by kernel_rfl : _ = true)) (by decide)) (fun w' => ?_) ?_
                      rotate_left
                      · unfold bareOp
                        go_simp
                        try with_reducible rfl
                      simp only [Act.put, List.setIfInBounds_toArray, List.set_cons_zero, List.set_cons_succ]
                      refine wpAnyB_done (by kernel_rfl) ?_ _
                      clear hS
                      obtain ⟨q0, q1, q2, -⟩ := id F_g.out
                      obtain ⟨q3, q4, q5, q6, -⟩ := id F_s.out
                      obtain ⟨q7, q8, q9, qa, -⟩ := id F_c.out
                      obtain ⟨qb, qc, qd, qe, -⟩ := id F_z.out
                      go_wp2_with fail
                      clear q0 q1 q2 q3 q4 q5 q6 q7 q8 q9 qa qb qc qd qe
                      replace F_g := Lib.hid F_g.out.drew
                      replace F_s := Lib.hid F_s.out.drew
                      replace F_c := Lib.hid F_c.out.drew
                      replace F_z := Lib.hid F_z.out.drew
                      replace F_p := Lib.hid F_p.out.drew
                      replace HBW := Lib.hid HBW.out.drew
                      have hS := And.intro F_g.out.s (And.intro F_s.out.s (And.intro F_c.out.s F_z.out.s))
                      refine wp_region_stage 9 (fun w' => SBox w' w.heap.size P Q G ∧ SPair w' (w.heap.size + 1) a b ∧ SPair w' (w.heap.size + 1 + 1) c0 c1 ∧ SPair w' (w.heap.size + 1 + 1 + 1) z0 z1) (by kernel_rfl) ?_
                      refine wpAnyB_take (i := 0) (some 124) (Op.load 24 (Operand.tmp 5)) 24 (v := ?_) ⟨_, rfl, rfl, rfl, rfl, rfl⟩ (by kernel_rfl) (by kernel_rfl) (by kernel_rfl) [9] (by kernel_rfl) (fun _ _ _ h => h) hS (fun w' hSw => ?_) ?_
                      rotate_left
                      · obtain ⟨⟨s0_, s1_, s2_⟩, ⟨s3_, s4_⟩, ⟨s5_, s6_⟩, ⟨s7_, s8_⟩⟩ := hSw
                        unfold bareOp
                        go_simp
                        try with_reducible rfl
                      simp only [Act.put, List.setIfInBounds_toArray, List.set_cons_zero, List.set_cons_succ]
                      refine wpAnyB_takeP (i := 1) (some 125) (Op.move (Operand.tmp 1)) 22 (v := ?_) ⟨_, rfl, rfl, rfl, rfl, rfl⟩ (by kernel_rfl) (by kernel_rfl) (by kernel_rfl) (by kernel_rfl) (fun _ _ _ h => h) (fun _ => hS) (fun w' => ?_) ?_
                      rotate_left
                      · unfold bareOp
                        go_simp
                        try with_reducible rfl
                      simp only [Act.put, List.setIfInBounds_toArray, List.set_cons_zero, List.set_cons_succ]
                      refine wpAnyB_takeP (i := 2) (some 126) (Op.move (Operand.tmp 15)) 3 (v := ?_) ⟨_, rfl, rfl, rfl, rfl, rfl⟩ (by kernel_rfl) (by kernel_rfl) (by kernel_rfl) (by kernel_rfl) (fun _ _ _ h => h) (fun _ => hS) (fun w' => ?_) ?_
                      rotate_left
                      · unfold bareOp
                        go_simp
                        try with_reducible rfl
                      simp only [Act.put, List.setIfInBounds_toArray, List.set_cons_zero, List.set_cons_succ]
                      refine wpAnyB_takeP (i := 3) (some 127) (Op.indexAddr 39 (Operand.tmp 9) (Operand.tmp 126)) 0 (v := ?_) ⟨_, rfl, rfl, rfl, rfl, rfl⟩ (by kernel_rfl) (by kernel_rfl) (by kernel_rfl) (by kernel_rfl) (fun _ _ _ h => h) (fun _ => hS) (fun w' => ?_) ?_
                      rotate_left
                      · unfold bareOp
                        go_simp
                        try with_reducible rfl
                      simp only [Act.put, List.setIfInBounds_toArray, List.set_cons_zero, List.set_cons_succ]
                      refine wpAnyB_take (i := 4) (some 128) (Op.load 22 (Operand.tmp 127)) 22 (v := ?_) ⟨_, rfl, rfl, rfl, rfl, rfl⟩ (by kernel_rfl) (by kernel_rfl) (by kernel_rfl) [9] (by kernel_rfl) (fun _ _ _ h => h) hS (fun w' hSw => ?_) ?_
                      rotate_left
                      · obtain ⟨⟨s0_, s1_, s2_⟩, ⟨s3_, s4_⟩, ⟨s5_, s6_⟩, ⟨s7_, s8_⟩⟩ := hSw
                        unfold bareOp
                        go_simp
                        try with_reducible rfl
                      simp only [Act.put, List.setIfInBounds_toArray, List.set_cons_zero, List.set_cons_succ]
                      refine wpAnyB_takeP (i := 5) (some 129) (Op.move (Operand.tmp 18)) 22 (v := ?_) ⟨_, rfl, rfl, rfl, rfl, rfl⟩ (by kernel_rfl) (by kernel_rfl) (by kernel_rfl) (by kernel_rfl) (fun _ _ _ h => h) (fun _ => hS) (fun w' => ?_) ?_
                      rotate_left
                      · unfold bareOp
                        go_simp
                        try with_reducible rfl
                      simp only [Act.put, List.setIfInBounds_toArray, List.set_cons_zero, List.set_cons_succ]
                      refine wpAnyB_takeP (i := 6) (some 130) (Op.move (Operand.tmp 15)) 3 (v := ?_) ⟨_, rfl, rfl, rfl, rfl, rfl⟩ (by kernel_rfl) (by kernel_rfl) (by kernel_rfl) (by kernel_rfl) (fun _ _ _ h => h) (fun _ => hS) (fun w' => ?_) ?_
                      rotate_left
                      · unfold bareOp
                        go_simp
                        try with_reducible rfl
                      simp only [Act.put, List.setIfInBounds_toArray, List.set_cons_zero, List.set_cons_succ]
                      refine wpAnyB_takeP (i := 7) (some 131) (Op.indexAddr 39 (Operand.tmp 8) (Operand.tmp 130)) 0 (v := ?_) ⟨_, rfl, rfl, rfl, rfl, rfl⟩ (by kernel_rfl) (by kernel_rfl) (by kernel_rfl) (by kernel_rfl) (fun _ _ _ h => h) (fun _ => hS) (fun w' => ?_) ?_
                      rotate_left
                      · unfold bareOp
                        go_simp
                        try with_reducible rfl
                      simp only [Act.put, List.setIfInBounds_toArray, List.set_cons_zero, List.set_cons_succ]
                      refine wpAnyB_take (i := 8) (some 132) (Op.load 22 (Operand.tmp 131)) 22 (v := ?_) ⟨_, rfl, rfl, rfl, rfl, rfl⟩ (by kernel_rfl) (by kernel_rfl) (by kernel_rfl) [9] (by kernel_rfl) (fun _ _ _ h => h) hS (fun w' hSw => ?_) ?_
                      rotate_left
                      · obtain ⟨⟨s0_, s1_, s2_⟩, ⟨s3_, s4_⟩, ⟨s5_, s6_⟩, ⟨s7_, s8_⟩⟩ := hSw
                        unfold bareOp
                        go_simp
                        try with_reducible rfl
                      simp only [Act.put, List.setIfInBounds_toArray, List.set_cons_zero, List.set_cons_succ]
                      refine wpAnyB_only (i := 9) (some 133) (Op.call { callee := Callee.value (Operand.func 14), args := #[Operand.tmp 124, Operand.tmp 125, Operand.tmp 128, Operand.tmp 129, Operand.tmp 132], argTypes := #[24, 22, 22, 22, 22] }) 44 ⟨_, rfl, rfl, rfl, rfl, rfl⟩ (by kernel_rfl) (fun K hK => ?_)
                      unfold bareOp
                      go_wp2_with (go_at_call 14; refine (divide_ok _ HH.out hy yP Uz1.out t0 tP Uc1.out HU_s1.out HV_s1.out HI_s1.out HR_s1.out).mono ?_; rintro e w34 ⟨rfl, hb34⟩)
                      replace F_g := Lib.hid (F_g.out.keep hb34)
                      replace F_s := Lib.hid (F_s.out.keep hb34)
                      replace F_c := Lib.hid (F_c.out.keep hb34)
                      replace F_z := Lib.hid (F_z.out.keep hb34)
                      replace F_p := Lib.hid (F_p.out.keep hb34)
                      replace HBW := Lib.hid (HBW.out.trans (hb34.mono HBW.out.size))
                      clear hb34
                      replace hS := And.intro F_g.out.s (And.intro F_s.out.s (And.intro F_c.out.s F_z.out.s))
                      refine hK.out _ _ (fun h => absurd (h.symm.trans (by kernel_rfl : _ = true)) (by decide)) ?_
                      clear hK K
                      try simp only [Act.put, List.setIfInBounds_toArray, List.set_cons_zero, List.set_cons_succ]
                      refine wpAnyB_takeP (i := 10) (some 123) (Op.move (Operand.tmp 133)) 44 (v := ?_) ⟨_, rfl, rfl, rfl, rfl, rfl⟩ (by kernel_rfl) (by kernel_rfl) (by kernel_rfl) (by kernel_rfl) (fun _ _ _ h => h) (fun h => absurd (h.symm.trans (by kernel_rfl : _ = true)) (by decide)) (fun w' => ?_) ?_
                      rotate_left
                      · unfold bareOp
                        go_simp
                        try with_reducible rfl
                      simp only [Act.put, List.setIfInBounds_toArray, List.set_cons_zero, List.set_cons_succ]
                      refine wpAnyB_takeP (i := 11) (some 134) (Op.extract (Operand.tmp 123) 0) 22 (v := ?_) ⟨_, rfl, rfl, rfl, rfl, rfl⟩ (by kernel_rfl) (by kernel_rfl) (by kernel_rfl) (by kernel_rfl) (fun _ _ _ h => h) (fun h => absurd (h.symm.trans (by kernel_rfl : _ = true)) (by decide)) (fun w' => ?_) ?_
                      rotate_left
                      · unfold bareOp
                        go_simp
                        try with_reducible rfl
                      simp only [Act.put, List.setIfInBounds_toArray, List.set_cons_zero, List.set_cons_succ]
                      refine wpAnyB_takeP (i := 12) (some 135) (Op.extract (Operand.tmp 123) 1) 4 (v := ?_) ⟨_, rfl, rfl, rfl, rfl, rfl⟩ (by kernel_rfl) (by kernel_rfl) (by kernel_rfl) (by kernel_rfl) (fun _ _ _ h => h) (fun h => absurd (h.symm.trans (by kernel_rfl : _ = true)) (by decide)) (fun w' => ?_) ?_
                      rotate_left
                      · unfold bareOp
                        go_simp
                        try with_reducible rfl
                      simp only [Act.put, List.setIfInBounds_toArray, List.set_cons_zero, List.set_cons_succ]
                      refine wpAnyB_takeP (i := 13) (some 22) (Op.assign (Operand.tmp 134)) 22 (v := ?_) ⟨_, rfl, rfl, rfl, rfl, rfl⟩ (by kernel_rfl) (by kernel_rfl) (by kernel_rfl) (by kernel_rfl) (fun _ _ _ h => h) (fun h => absurd (h.symm.trans (by kernel_rfl : _ = true)) (by decide)) (fun w' => ?_) ?_
                      rotate_left
                      · unfold bareOp
                        go_simp
                        try with_reducible rfl
                      simp only [Act.put, List.setIfInBounds_toArray, List.set_cons_zero, List.set_cons_succ]
                      refine wpAnyB_takeP (i := 14) (some 23) (Op.assign (Operand.tmp 135)) 4 (v := ?_) ⟨_, rfl, rfl, rfl, rfl, rfl⟩ (by kernel_rfl) (by kernel_rfl) (by kernel_rfl) (by kernel_rfl) (fun _ _ _ h => h) (fun h => absurd (h.symm.trans (by kernel_rfl : _ = true)) (by decide)) (fun w' => ?_) ?_
                      rotate_left
                      · unfold bareOp
                        go_simp
                        try with_reducible rfl
                      simp only [Act.put, List.setIfInBounds_toArray, List.set_cons_zero, List.set_cons_succ]
                      refine wpAnyB_done (by kernel_rfl) ?_ _
                      clear hS
                      obtain ⟨q0, q1, q2, -⟩ := id F_g.out
                      obtain ⟨q3, q4, q5, q6, -⟩ := id F_s.out
                      obtain ⟨q7, q8, q9, qa, -⟩ := id F_c.out
                      obtain ⟨qb, qc, qd, qe, -⟩ := id F_z.out
                      obtain ⟨⟨p0, p1, p2_, p3_, -, -, -, -, -⟩, pf⟩ := id F_p.out
                      have pf0 := pf 0
                      have pf1 := pf 1
                      have pf2 := pf 2
                      have pf3 := pf 3
                      clear pf
                      go_wp2_with fail
                      go_roundw
                      case rel => exact ⟨2, by omega, by go_num, ⟨(F_g.out.far (c := w4.heap.size) (o := 1) (by omega) (.int .u64 r1)).far (c := w4.heap.size) (o := 3) (by omega) (.int .u64 s1), (F_s.out.far (c := w4.heap.size) (o := 1) (by omega) (.int .u64 r1)).far (c := w4.heap.size) (o := 3) (by omega) (.int .u64 s1), (F_c.out.far (c := w4.heap.size) (o := 1) (by omega) (.int .u64 r1)).far (c := w4.heap.size) (o := 3) (by omega) (.int .u64 s1), (F_z.out.far (c := w4.heap.size) (o := 1) (by omega) (.int .u64 r1)).far (c := w4.heap.size) (o := 3) (by omega) (.int .u64 s1), (HBW.out.setCell (p := ⟨w4.heap.size, 1, none⟩) (show w.heap.size ≤ w4.heap.size by omega) (.int .u64 r1)).setCell (p := ⟨w4.heap.size, 3, none⟩) (show w.heap.size ≤ w4.heap.size by omega) (.int .u64 s1), .inr (.inr ⟨rfl, F_p.out.set1 r1 s1⟩)⟩⟩
                      case measure => simp [intOf]
                    case inr.inr =>
                      have F_p := Lib.hid hp
                      clear HK hp
                      rw [show ((2 : Nat) : Int) = 2 from rfl]
                      obtain ⟨q0, q1, q2, -⟩ := id F_g.out
                      obtain ⟨q3, q4, q5, q6, -⟩ := id F_s.out
                      obtain ⟨q7, q8, q9, qa, -⟩ := id F_c.out
                      obtain ⟨qb, qc, qd, qe, -⟩ := id F_z.out
                      go_wp2_with fail
                      clear q0 q1 q2 q3 q4 q5 q6 q7 q8 q9 qa qb qc qd qe
                      refine (addExp_ok P Q G c0 c1 sm _ HH.out hc0 c0Q hc1 c1Q HSM.out).mono ?_
                      rintro e w31 ⟨rfl, hb31⟩
                      replace F_g := Lib.hid (F_g.out.keep hb31)
                      replace F_s := Lib.hid (F_s.out.keep hb31)
                      replace F_c := Lib.hid (F_c.out.keep hb31)
                      replace F_z := Lib.hid (F_z.out.keep hb31)
                      replace F_p := Lib.hid (F_p.out.keep hb31)
                      replace HBW := Lib.hid (HBW.out.trans (hb31.mono HBW.out.size))
                      clear hb31
                      obtain ⟨⟨p0, p1, p2_, p3_, p4_, p5_, p6_, p7_, -⟩, -⟩ := id F_p.out
                      obtain ⟨q0, q1, q2, -⟩ := id F_g.out
                      obtain ⟨q3, q4, q5, q6, -⟩ := id F_s.out
                      obtain ⟨q7, q8, q9, qa, -⟩ := id F_c.out
                      obtain ⟨qb, qc, qd, qe, -⟩ := id F_z.out
                      go_wp2_with fail
                      clear q0 q1 q2 q3 q4 q5 q6 q7 q8 q9 qa qb qc qd qe
                      clear p0 p1 p2_ p3_ p4_ p5_ p6_ p7_
                      refine (bitHolds_any _ hP hQ hG hy ha hb sm0 r0_0 r1_0 s0_0 s1_0 hc0 hc1 hz0 hz1 HNN.out HPP.out HTT.out HBH.out).mono ?_
                      rintro e w32 ⟨rfl, hb32⟩
                      replace F_g := Lib.hid (F_g.out.keep hb32)
                      replace F_s := Lib.hid (F_s.out.keep hb32)
                      replace F_c := Lib.hid (F_c.out.keep hb32)
                      replace F_z := Lib.hid (F_z.out.keep hb32)
                      replace F_p := Lib.hid (F_p.out.keep hb32)
                      replace HBW := Lib.hid (HBW.out.trans (hb32.mono HBW.out.size))
                      clear hb32
                      obtain ⟨q0, q1, q2, -⟩ := id F_g.out
                      obtain ⟨q3, q4, q5, q6, -⟩ := id F_s.out
                      obtain ⟨q7, q8, q9, qa, -⟩ := id F_c.out
                      obtain ⟨qb, qc, qd, qe, -⟩ := id F_z.out
                      go_wp2_with fail
                      go_ret
                      exact ⟨rfl, HBW.out⟩


set_option maxRecDepth 100000 in
theorem lifted (os : Os) (started : os.Started) (H : Type) (enc : TypeId × Value → H) :
    ReturnsInHanded {} Try.checked os 4 .any (Rows.proofSimulatesSpec.pre6 enc Try.prog Try.f4 Rows.proofSimulatesRow.domain false) (Rows.proofSimulatesSpec.post enc Try.prog Try.f4 false true false false) := by
  refine returnsInHanded_of_change (C := Try.checked) own started (by kernel_rfl) Try.func4
    (ChangeSpec.witness6 (enc := enc) (C := Try.checked) false ⟨#[], #[.agg #[.int .u64 0, .int .u64 0, .int .u64 0], .int .u64 0, .agg #[.int .u64 0, .int .u64 0], .agg #[.int .u64 0, .int .u64 0], .agg #[.int .u64 0, .int .u64 0]], []⟩ 8 (by kernel_rfl) (by kernel_rfl) (by kernel_rfl) (by kernel_rfl)) ?_
  intro W base args ds gs before hval0 hW _ _
  have hval : ∀ (j : Nat) t v, Try.f4.params[j]? = some t → args[j]? = some v → Value.okWide Try.prog W .any base t v := hval0
  have hW' := hW
  obtain ⟨p, q, hA0, hV, rfl, hfz, hnd⟩ := hW
  have hA : DataW.TrodAll enc Try.prog W 0 (fun _ => true) true Try.f4.params.toList args.toList ds p := hA0
  rw [Try.params4] at hA hval
  have hK := hA
  obtain ⟨v0, vs0, d0, ds0, p0, q0, hargs, rfl, rfl, h0, r0⟩ := trodAll_cons hA
  obtain ⟨v1, vs1, d1, ds1, p1, q1, rfl, rfl, rfl, h1, r1⟩ := trodAll_cons r0
  obtain ⟨v2, vs2, d2, ds2, p2, q2, rfl, rfl, rfl, h2, r2⟩ := trodAll_cons r1
  obtain ⟨v3, vs3, d3, ds3, p3, q3, rfl, rfl, rfl, h3, r3⟩ := trodAll_cons r2
  obtain ⟨v4, vs4, d4, ds4, p4, q4, rfl, rfl, rfl, h4, r4⟩ := trodAll_cons r3
  obtain ⟨rfl, rfl, rfl⟩ := trodAll_nil r4
  obtain rfl : args = #[v0, v1, v2, v3, v4] := by cases args; simp_all
  obtain ⟨rfl, rfl⟩ := trodVars_none hV
  obtain ⟨P, Q, G, rfl, uP, uQ, uG⟩ := open_group (hval 0 24 v0 rfl rfl) h0
  obtain ⟨y, rfl, uy⟩ := open_u64 (hval 1 22 v1 rfl rfl) h1
  obtain ⟨a, b, rfl, ua, ub⟩ := open_sealed (hval 2 38 v2 rfl rfl) h2
  obtain ⟨c0, c1, rfl, uc0, uc1⟩ := open_p64 (hval 3 39 v3 rfl rfl) h3
  obtain ⟨z0, z1, rfl, uz0, uz1⟩ := open_p64 (hval 4 39 v4 rfl rfl) h4
  clear hA0 hval0
  refine (walk P Q G y a b c0 c1 z0 z1 W uP uQ uG uy ua ub uc0 uc1 uz0 uz1).mono fun e W' ⟨he, bel⟩ => ?_
  subst he
  exact ⟨_, rfl, _, _, _, [], _, [], hW', trodAll_mk1 (shut_bool Try.underlying4 _), trodAll_stays laidOut (by kernel_rfl) hK bel, rfl, bel.frame _, fun h => by cases h⟩

theorem over : Rows.proofSimulatesRow.holds Try.pinned (OpenSpec.ofChange Rows.proofSimulatesSpec) :=
  OpenClaim.holds_of_wide 4 Try.f4 rfl rfl rfl rfl rfl rfl rfl ⟨rfl, rfl, rfl, rfl, rfl⟩ rfl rfl rfl rfl rfl (by kernel_rfl) Try.func4 (by kernel_rfl)
    (of_decide_eq_true (by kernel_rfl)) (by unfold Func.isWrapper; first | (rw [if_pos (by decide +kernel)]; kernel_rfl) | (rw [if_neg (by decide +kernel)]; exact ⟨rfl, rfl⟩))
    (fun os started H enc _ => lifted os started H enc)

theorem proved : Rows.ProofSimulatesSaid := over
#print axioms proved
end Go.Proofs.Ytmcpfinnhgbcpaa.lawSim
