/- ProofEqualSound: the statement: for every input the law returns true, and the arguments read as before. -/
import Derived.Test.YtmcpfinnhgbcpaaAux33
import Derived.Test.YtmcpfinnhgbcpaaLaw31
import Derived.Test.YtmcpfinnhgbcpaaSchE
import Derived.Test.YtmcpfinnhgbcpaaOpen
import Derived.Test.YtmcpfinnhgbcpaaRows
namespace Go.Proofs.Ytmcpfinnhgbcpaa.lawEqSound
open Go.ChangeShapes Go.WideShapes Go.ChangeAt Go.RowKit Num
set_option linter.unusedSimpArgs false
set_option linter.unusedVariables false

theorem exp_cg {P Q G x y : Int} (g : Grp P Q G) (x0 : 0 ≤ x) (y0 : 0 ≤ y) (h : powm G x P = powm G y P) : Cg Q x y := by
  have q2 := g.pQ.1
  rw [g.period g.mem_g x0, g.period g.mem_g y0] at h
  have := g.inj g.mem_g g.g_ne (Int.emod_nonneg _ (by omega)) (Int.emod_lt_of_pos _ (by omega)) (Int.emod_nonneg _ (by omega)) (Int.emod_lt_of_pos _ (by omega)) h
  exact cg_of_emod this
/-- Special soundness for another base. -/
theorem sound_of {P Q G a d s c z e w m n u x : Int} (g : Grp P Q G) (ha : Mem P Q a) (hd : Mem P Q d) (hs : Mem P Q s) (c0 : 0 ≤ c) (cQ : c < Q) (e0 : 0 ≤ e) (eQ : e < Q) (hne : c ≠ e) (z0 : 0 ≤ z) (zQ : z < Q) (w0 : 0 ≤ w) (wQ : w < Q)
    (h1 : powm a z P = s * powm d c P % P) (h2 : powm a w P = s * powm d e P % P) (hm : (c - e) % Q = m) (hn : (z - w) % Q = n) (hu : Inv Q m u) (hx : n * u % Q = x) : powm a x P = d := by
  have q2 := g.pQ.1
  have p5 := g.five
  obtain ⟨i, i0, iQ, hi⟩ := g.whole ha
  obtain ⟨j, j0, jQ, hj⟩ := g.whole hd
  obtain ⟨k, k0, kQ, hk⟩ := g.whole hs
  rw [← hi, ← hj, ← hk, ← powm_mul G P i0 z0, powm_lin g j0 k0 c0] at h1
  rw [← hi, ← hj, ← hk, ← powm_mul G P i0 w0, powm_lin g j0 k0 e0] at h2
  have f1 : Cg Q (i * z) (k + j * c) := exp_cg g (Int.mul_nonneg i0 z0) (Int.add_nonneg k0 (Int.mul_nonneg j0 c0)) h1
  have f2 : Cg Q (i * w) (k + j * e) := exp_cg g (Int.mul_nonneg i0 w0) (Int.add_nonneg k0 (Int.mul_nonneg j0 e0)) h2
  have x0 : 0 ≤ x := by rw [← hx]; exact Int.emod_nonneg _ (by omega)
  have f3 : Cg Q (i * n) (j * m) := by
    have g1 : Cg Q (i * n) (i * z - i * w) := by
      refine (Cg.mul_left i (Cg.trans (Cg.of_eq hn.symm) (cg_emod Q _))).trans (Cg.of_eq (Int.mul_sub _ _ _))
    have g2 : Cg Q (j * m) (j * c - j * e) := by
      refine (Cg.mul_left j (Cg.trans (Cg.of_eq hm.symm) (cg_emod Q _))).trans (Cg.of_eq (Int.mul_sub _ _ _))
    refine g1.trans ((f1.sub f2).trans (Cg.trans (Cg.of_eq (by omega)) g2.symm))
  have f4 : Cg Q (i * x) j := by
    refine (Cg.mul_left i (Cg.trans (Cg.of_eq hx.symm) (cg_emod Q _))).trans ?_
    rw [← Int.mul_assoc]
    refine (Cg.mul_right u f3).trans ?_
    rw [Int.mul_assoc]
    exact (Cg.mul_left j hu.2.2).trans (Cg.of_eq (Int.mul_one j))
  rw [← hi, ← hj, ← powm_mul G P i0 x0]
  exact g.period_cg g.mem_g (Int.mul_nonneg i0 x0) j0 f4
set_option maxRecDepth 100000 in
set_option maxHeartbeats 12800000 in
theorem walk (P Q G y a d r s c z e w_ : Int) (w : World) (uP : U64 P) (uQ : U64 Q) (uG : U64 G) (uy : U64 y) (ua : U64 a) (ud : U64 d) (ur : U64 r) (us : U64 s) (uc : U64 c) (uz : U64 z) (ue : U64 e) (uw_ : U64 w_) :
    Calls Try.prog 3 #[.agg #[.int .u64 P, .int .u64 Q, .int .u64 G], .int .u64 y, .int .u64 a, .int .u64 d, .int .u64 r, .int .u64 s, .int .u64 c, .int .u64 z, .int .u64 e, .int .u64 w_] w fun e w' => e = .returned (.bool true) ∧ Below w.heap.size w w' := by
  have hP := uP.1
  have hQ := uQ.1
  have hG := uG.1
  have hy := uy.1
  have ha := ua.1
  have hd := ud.1
  have hr := ur.1
  have hs := us.1
  have hc := uc.1
  have hz := uz.1
  have he := ue.1
  have hw_ := uw_.1
  by_cases hv : Valid P Q G
  case neg =>
    have HV := Lib.hid (show ValidS P Q G 300 from .inr ⟨hv, rfl⟩)
    clear hv
    have F_g := Lib.hid (show Boxed (w.alloc (.cells #[.int .u64 P, .int .u64 Q, .int .u64 G] 24)) (w.heap.size) P Q G from Boxed.at _ P Q G _ (w.heap.size) (by simp))
    have HBW := Lib.hid (show Below w.heap.size w (w.alloc (.cells #[.int .u64 P, .int .u64 Q, .int .u64 G] 24)) from (Below.refl _ _).alloc (by simp <;> omega) _)
    go_enter Try.func3, Try.ntmps3
    obtain ⟨x0a, x0b, x0c, -⟩ := id F_g.out
    go_wp2_with fail
    clear x0a x0b x0c
    refine (alive_yes _).mono ?_
    rintro e w1 ⟨rfl, hb1⟩
    replace F_g := Lib.hid (F_g.out.keep hb1)
    replace HBW := Lib.hid (HBW.out.trans (hb1.mono HBW.out.size))
    clear hb1
    obtain ⟨x0a, x0b, x0c, -⟩ := id F_g.out
    go_wp2_with fail
    clear x0a x0b x0c
    refine (gcheck_any P Q G 300 _ hP hQ hG HV.out).mono ?_
    rintro e w2 ⟨rfl, hb2⟩
    replace F_g := Lib.hid (F_g.out.keep hb2)
    replace HBW := Lib.hid (HBW.out.trans (hb2.mono HBW.out.size))
    clear hb2
    obtain ⟨x0a, x0b, x0c, -⟩ := id F_g.out
    go_wp2_with fail
    go_ret
    exact ⟨rfl, HBW.out⟩
  case pos =>
    have HV := Lib.hid (show ValidS P Q G 0 from .inl ⟨hv, rfl⟩)
    have HG := Lib.hid hv.grp
    have HH := Lib.hid hv.has
    obtain ⟨p5, p3, _, pq, g2, gP⟩ := id hv.1
    have q3 : Q < 1073741824 := by omega
    clear hv pq
    by_cases my : Mem P Q y
    case neg =>
      have HM_y := Lib.hid my
      clear my
      have F_g := Lib.hid (show Boxed (w.alloc (.cells #[.int .u64 P, .int .u64 Q, .int .u64 G] 24)) (w.heap.size) P Q G from Boxed.at _ P Q G _ (w.heap.size) (by simp))
      have HBW := Lib.hid (show Below w.heap.size w (w.alloc (.cells #[.int .u64 P, .int .u64 Q, .int .u64 G] 24)) from (Below.refl _ _).alloc (by simp <;> omega) _)
      go_enter Try.func3, Try.ntmps3
      obtain ⟨x0a, x0b, x0c, -⟩ := id F_g.out
      go_wp2_with fail
      clear x0a x0b x0c
      refine (alive_yes _).mono ?_
      rintro e w1 ⟨rfl, hb1⟩
      replace F_g := Lib.hid (F_g.out.keep hb1)
      replace HBW := Lib.hid (HBW.out.trans (hb1.mono HBW.out.size))
      clear hb1
      obtain ⟨x0a, x0b, x0c, -⟩ := id F_g.out
      go_wp2_with fail
      clear x0a x0b x0c
      refine (gcheck_any P Q G 0 _ hP hQ hG HV.out).mono ?_
      rintro e w2 ⟨rfl, hb2⟩
      replace F_g := Lib.hid (F_g.out.keep hb2)
      replace HBW := Lib.hid (HBW.out.trans (hb2.mono HBW.out.size))
      clear hb2
      obtain ⟨x0a, x0b, x0c, -⟩ := id F_g.out
      go_wp2_with fail
      clear x0a x0b x0c
      refine (member_is (r := false) _ hP hQ hG hy (by simp [HM_y.out])).mono ?_
      rintro e w3 ⟨rfl, hb3⟩
      replace F_g := Lib.hid (F_g.out.keep hb3)
      replace HBW := Lib.hid (HBW.out.trans (hb3.mono HBW.out.size))
      clear hb3
      obtain ⟨x0a, x0b, x0c, -⟩ := id F_g.out
      go_wp2_with fail
      go_ret
      exact ⟨rfl, HBW.out⟩
    case pos =>
      have HM_y := Lib.hid my
      by_cases ma : Mem P Q a
      case neg =>
        have HM_a := Lib.hid ma
        clear ma
        have F_g := Lib.hid (show Boxed (w.alloc (.cells #[.int .u64 P, .int .u64 Q, .int .u64 G] 24)) (w.heap.size) P Q G from Boxed.at _ P Q G _ (w.heap.size) (by simp))
        have HBW := Lib.hid (show Below w.heap.size w (w.alloc (.cells #[.int .u64 P, .int .u64 Q, .int .u64 G] 24)) from (Below.refl _ _).alloc (by simp <;> omega) _)
        go_enter Try.func3, Try.ntmps3
        obtain ⟨x0a, x0b, x0c, -⟩ := id F_g.out
        go_wp2_with fail
        clear x0a x0b x0c
        refine (alive_yes _).mono ?_
        rintro e w1 ⟨rfl, hb1⟩
        replace F_g := Lib.hid (F_g.out.keep hb1)
        replace HBW := Lib.hid (HBW.out.trans (hb1.mono HBW.out.size))
        clear hb1
        obtain ⟨x0a, x0b, x0c, -⟩ := id F_g.out
        go_wp2_with fail
        clear x0a x0b x0c
        refine (gcheck_any P Q G 0 _ hP hQ hG HV.out).mono ?_
        rintro e w2 ⟨rfl, hb2⟩
        replace F_g := Lib.hid (F_g.out.keep hb2)
        replace HBW := Lib.hid (HBW.out.trans (hb2.mono HBW.out.size))
        clear hb2
        obtain ⟨x0a, x0b, x0c, -⟩ := id F_g.out
        go_wp2_with fail
        clear x0a x0b x0c
        refine (member_is (r := true) _ hP hQ hG hy (by simp [HM_y.out, HH.out])).mono ?_
        rintro e w3 ⟨rfl, hb3⟩
        replace F_g := Lib.hid (F_g.out.keep hb3)
        replace HBW := Lib.hid (HBW.out.trans (hb3.mono HBW.out.size))
        clear hb3
        obtain ⟨x0a, x0b, x0c, -⟩ := id F_g.out
        go_wp2_with fail
        clear x0a x0b x0c
        refine (member_is (r := false) _ hP hQ hG ha (by simp [HM_a.out])).mono ?_
        rintro e w4 ⟨rfl, hb4⟩
        replace F_g := Lib.hid (F_g.out.keep hb4)
        replace HBW := Lib.hid (HBW.out.trans (hb4.mono HBW.out.size))
        clear hb4
        obtain ⟨x0a, x0b, x0c, -⟩ := id F_g.out
        go_wp2_with fail
        go_ret
        exact ⟨rfl, HBW.out⟩
      case pos =>
        have HM_a := Lib.hid ma
        by_cases md : Mem P Q d
        case neg =>
          have HM_d := Lib.hid md
          clear md
          have F_g := Lib.hid (show Boxed (w.alloc (.cells #[.int .u64 P, .int .u64 Q, .int .u64 G] 24)) (w.heap.size) P Q G from Boxed.at _ P Q G _ (w.heap.size) (by simp))
          have HBW := Lib.hid (show Below w.heap.size w (w.alloc (.cells #[.int .u64 P, .int .u64 Q, .int .u64 G] 24)) from (Below.refl _ _).alloc (by simp <;> omega) _)
          go_enter Try.func3, Try.ntmps3
          obtain ⟨x0a, x0b, x0c, -⟩ := id F_g.out
          go_wp2_with fail
          clear x0a x0b x0c
          refine (alive_yes _).mono ?_
          rintro e w1 ⟨rfl, hb1⟩
          replace F_g := Lib.hid (F_g.out.keep hb1)
          replace HBW := Lib.hid (HBW.out.trans (hb1.mono HBW.out.size))
          clear hb1
          obtain ⟨x0a, x0b, x0c, -⟩ := id F_g.out
          go_wp2_with fail
          clear x0a x0b x0c
          refine (gcheck_any P Q G 0 _ hP hQ hG HV.out).mono ?_
          rintro e w2 ⟨rfl, hb2⟩
          replace F_g := Lib.hid (F_g.out.keep hb2)
          replace HBW := Lib.hid (HBW.out.trans (hb2.mono HBW.out.size))
          clear hb2
          obtain ⟨x0a, x0b, x0c, -⟩ := id F_g.out
          go_wp2_with fail
          clear x0a x0b x0c
          refine (member_is (r := true) _ hP hQ hG hy (by simp [HM_y.out, HH.out])).mono ?_
          rintro e w3 ⟨rfl, hb3⟩
          replace F_g := Lib.hid (F_g.out.keep hb3)
          replace HBW := Lib.hid (HBW.out.trans (hb3.mono HBW.out.size))
          clear hb3
          obtain ⟨x0a, x0b, x0c, -⟩ := id F_g.out
          go_wp2_with fail
          clear x0a x0b x0c
          refine (member_is (r := true) _ hP hQ hG ha (by simp [HM_a.out, HH.out])).mono ?_
          rintro e w4 ⟨rfl, hb4⟩
          replace F_g := Lib.hid (F_g.out.keep hb4)
          replace HBW := Lib.hid (HBW.out.trans (hb4.mono HBW.out.size))
          clear hb4
          obtain ⟨x0a, x0b, x0c, -⟩ := id F_g.out
          go_wp2_with fail
          clear x0a x0b x0c
          refine (member_is (r := false) _ hP hQ hG hd (by simp [HM_d.out])).mono ?_
          rintro e w5 ⟨rfl, hb5⟩
          replace F_g := Lib.hid (F_g.out.keep hb5)
          replace HBW := Lib.hid (HBW.out.trans (hb5.mono HBW.out.size))
          clear hb5
          obtain ⟨x0a, x0b, x0c, -⟩ := id F_g.out
          go_wp2_with fail
          go_ret
          exact ⟨rfl, HBW.out⟩
        case pos =>
          have HM_d := Lib.hid md
          by_cases mr : Mem P Q r
          case neg =>
            have HM_r := Lib.hid mr
            clear mr
            have F_g := Lib.hid (show Boxed (w.alloc (.cells #[.int .u64 P, .int .u64 Q, .int .u64 G] 24)) (w.heap.size) P Q G from Boxed.at _ P Q G _ (w.heap.size) (by simp))
            have HBW := Lib.hid (show Below w.heap.size w (w.alloc (.cells #[.int .u64 P, .int .u64 Q, .int .u64 G] 24)) from (Below.refl _ _).alloc (by simp <;> omega) _)
            go_enter Try.func3, Try.ntmps3
            obtain ⟨x0a, x0b, x0c, -⟩ := id F_g.out
            go_wp2_with fail
            clear x0a x0b x0c
            refine (alive_yes _).mono ?_
            rintro e w1 ⟨rfl, hb1⟩
            replace F_g := Lib.hid (F_g.out.keep hb1)
            replace HBW := Lib.hid (HBW.out.trans (hb1.mono HBW.out.size))
            clear hb1
            obtain ⟨x0a, x0b, x0c, -⟩ := id F_g.out
            go_wp2_with fail
            clear x0a x0b x0c
            refine (gcheck_any P Q G 0 _ hP hQ hG HV.out).mono ?_
            rintro e w2 ⟨rfl, hb2⟩
            replace F_g := Lib.hid (F_g.out.keep hb2)
            replace HBW := Lib.hid (HBW.out.trans (hb2.mono HBW.out.size))
            clear hb2
            obtain ⟨x0a, x0b, x0c, -⟩ := id F_g.out
            go_wp2_with fail
            clear x0a x0b x0c
            refine (member_is (r := true) _ hP hQ hG hy (by simp [HM_y.out, HH.out])).mono ?_
            rintro e w3 ⟨rfl, hb3⟩
            replace F_g := Lib.hid (F_g.out.keep hb3)
            replace HBW := Lib.hid (HBW.out.trans (hb3.mono HBW.out.size))
            clear hb3
            obtain ⟨x0a, x0b, x0c, -⟩ := id F_g.out
            go_wp2_with fail
            clear x0a x0b x0c
            refine (member_is (r := true) _ hP hQ hG ha (by simp [HM_a.out, HH.out])).mono ?_
            rintro e w4 ⟨rfl, hb4⟩
            replace F_g := Lib.hid (F_g.out.keep hb4)
            replace HBW := Lib.hid (HBW.out.trans (hb4.mono HBW.out.size))
            clear hb4
            obtain ⟨x0a, x0b, x0c, -⟩ := id F_g.out
            go_wp2_with fail
            clear x0a x0b x0c
            refine (member_is (r := true) _ hP hQ hG hd (by simp [HM_d.out, HH.out])).mono ?_
            rintro e w5 ⟨rfl, hb5⟩
            replace F_g := Lib.hid (F_g.out.keep hb5)
            replace HBW := Lib.hid (HBW.out.trans (hb5.mono HBW.out.size))
            clear hb5
            obtain ⟨x0a, x0b, x0c, -⟩ := id F_g.out
            go_wp2_with fail
            clear x0a x0b x0c
            refine (member_is (r := false) _ hP hQ hG hr (by simp [HM_r.out])).mono ?_
            rintro e w6 ⟨rfl, hb6⟩
            replace F_g := Lib.hid (F_g.out.keep hb6)
            replace HBW := Lib.hid (HBW.out.trans (hb6.mono HBW.out.size))
            clear hb6
            obtain ⟨x0a, x0b, x0c, -⟩ := id F_g.out
            go_wp2_with fail
            go_ret
            exact ⟨rfl, HBW.out⟩
          case pos =>
            have HM_r := Lib.hid mr
            by_cases ms : Mem P Q s
            case neg =>
              have HM_s := Lib.hid ms
              clear ms
              have F_g := Lib.hid (show Boxed (w.alloc (.cells #[.int .u64 P, .int .u64 Q, .int .u64 G] 24)) (w.heap.size) P Q G from Boxed.at _ P Q G _ (w.heap.size) (by simp))
              have HBW := Lib.hid (show Below w.heap.size w (w.alloc (.cells #[.int .u64 P, .int .u64 Q, .int .u64 G] 24)) from (Below.refl _ _).alloc (by simp <;> omega) _)
              go_enter Try.func3, Try.ntmps3
              obtain ⟨x0a, x0b, x0c, -⟩ := id F_g.out
              go_wp2_with fail
              clear x0a x0b x0c
              refine (alive_yes _).mono ?_
              rintro e w1 ⟨rfl, hb1⟩
              replace F_g := Lib.hid (F_g.out.keep hb1)
              replace HBW := Lib.hid (HBW.out.trans (hb1.mono HBW.out.size))
              clear hb1
              obtain ⟨x0a, x0b, x0c, -⟩ := id F_g.out
              go_wp2_with fail
              clear x0a x0b x0c
              refine (gcheck_any P Q G 0 _ hP hQ hG HV.out).mono ?_
              rintro e w2 ⟨rfl, hb2⟩
              replace F_g := Lib.hid (F_g.out.keep hb2)
              replace HBW := Lib.hid (HBW.out.trans (hb2.mono HBW.out.size))
              clear hb2
              obtain ⟨x0a, x0b, x0c, -⟩ := id F_g.out
              go_wp2_with fail
              clear x0a x0b x0c
              refine (member_is (r := true) _ hP hQ hG hy (by simp [HM_y.out, HH.out])).mono ?_
              rintro e w3 ⟨rfl, hb3⟩
              replace F_g := Lib.hid (F_g.out.keep hb3)
              replace HBW := Lib.hid (HBW.out.trans (hb3.mono HBW.out.size))
              clear hb3
              obtain ⟨x0a, x0b, x0c, -⟩ := id F_g.out
              go_wp2_with fail
              clear x0a x0b x0c
              refine (member_is (r := true) _ hP hQ hG ha (by simp [HM_a.out, HH.out])).mono ?_
              rintro e w4 ⟨rfl, hb4⟩
              replace F_g := Lib.hid (F_g.out.keep hb4)
              replace HBW := Lib.hid (HBW.out.trans (hb4.mono HBW.out.size))
              clear hb4
              obtain ⟨x0a, x0b, x0c, -⟩ := id F_g.out
              go_wp2_with fail
              clear x0a x0b x0c
              refine (member_is (r := true) _ hP hQ hG hd (by simp [HM_d.out, HH.out])).mono ?_
              rintro e w5 ⟨rfl, hb5⟩
              replace F_g := Lib.hid (F_g.out.keep hb5)
              replace HBW := Lib.hid (HBW.out.trans (hb5.mono HBW.out.size))
              clear hb5
              obtain ⟨x0a, x0b, x0c, -⟩ := id F_g.out
              go_wp2_with fail
              clear x0a x0b x0c
              refine (member_is (r := true) _ hP hQ hG hr (by simp [HM_r.out, HH.out])).mono ?_
              rintro e w6 ⟨rfl, hb6⟩
              replace F_g := Lib.hid (F_g.out.keep hb6)
              replace HBW := Lib.hid (HBW.out.trans (hb6.mono HBW.out.size))
              clear hb6
              obtain ⟨x0a, x0b, x0c, -⟩ := id F_g.out
              go_wp2_with fail
              clear x0a x0b x0c
              refine (member_is (r := false) _ hP hQ hG hs (by simp [HM_s.out])).mono ?_
              rintro e w7 ⟨rfl, hb7⟩
              replace F_g := Lib.hid (F_g.out.keep hb7)
              replace HBW := Lib.hid (HBW.out.trans (hb7.mono HBW.out.size))
              clear hb7
              obtain ⟨x0a, x0b, x0c, -⟩ := id F_g.out
              go_wp2_with fail
              go_ret
              exact ⟨rfl, HBW.out⟩
            case pos =>
              have HM_s := Lib.hid ms
              by_cases hne : c = e
              case neg =>
                obtain ⟨one, e1, h1⟩ := RetB.exists (askS P Q G [z, c] [y, a, d, r, s]) (powm G z P = r * powm y c P % P ∧ powm a z P = s * powm d c P % P)
                obtain ⟨two, e2, h2⟩ := RetB.exists (askS P Q G [w_, e] [y, a, d, r, s]) (powm G w_ P = r * powm y e P % P ∧ powm a w_ P = s * powm d e P % P)
                by_cases he1 : e1 = 0
                case neg =>
                  have hcd : (c == e) = false := by simpa using hne
                  clear hne
                  clear my ma md mr ms
                  have hn1 : (e1 != 0) = true := by simpa using he1
                  clear he1
                  have H1 := Lib.hid h1
                  have H2 := Lib.hid h2
                  clear h1 h2
                  have F_g := Lib.hid (show Boxed (w.alloc (.cells #[.int .u64 P, .int .u64 Q, .int .u64 G] 24)) (w.heap.size) P Q G from Boxed.at _ P Q G _ (w.heap.size) (by simp))
                  have HBW := Lib.hid (show Below w.heap.size w (w.alloc (.cells #[.int .u64 P, .int .u64 Q, .int .u64 G] 24)) from (Below.refl _ _).alloc (by simp <;> omega) _)
                  go_enter Try.func3, Try.ntmps3
                  obtain ⟨x0a, x0b, x0c, -⟩ := id F_g.out
                  go_wp2_with fail
                  clear x0a x0b x0c
                  refine (alive_yes _).mono ?_
                  rintro e w1 ⟨rfl, hb1⟩
                  replace F_g := Lib.hid (F_g.out.keep hb1)
                  replace HBW := Lib.hid (HBW.out.trans (hb1.mono HBW.out.size))
                  clear hb1
                  obtain ⟨x0a, x0b, x0c, -⟩ := id F_g.out
                  go_wp2_with fail
                  clear x0a x0b x0c
                  refine (gcheck_any P Q G 0 _ hP hQ hG HV.out).mono ?_
                  rintro e w2 ⟨rfl, hb2⟩
                  replace F_g := Lib.hid (F_g.out.keep hb2)
                  replace HBW := Lib.hid (HBW.out.trans (hb2.mono HBW.out.size))
                  clear hb2
                  obtain ⟨x0a, x0b, x0c, -⟩ := id F_g.out
                  go_wp2_with fail
                  clear x0a x0b x0c
                  refine (member_is (r := true) _ hP hQ hG hy (by simp [HM_y.out, HH.out])).mono ?_
                  rintro e w3 ⟨rfl, hb3⟩
                  replace F_g := Lib.hid (F_g.out.keep hb3)
                  replace HBW := Lib.hid (HBW.out.trans (hb3.mono HBW.out.size))
                  clear hb3
                  obtain ⟨x0a, x0b, x0c, -⟩ := id F_g.out
                  go_wp2_with fail
                  clear x0a x0b x0c
                  refine (member_is (r := true) _ hP hQ hG ha (by simp [HM_a.out, HH.out])).mono ?_
                  rintro e w4 ⟨rfl, hb4⟩
                  replace F_g := Lib.hid (F_g.out.keep hb4)
                  replace HBW := Lib.hid (HBW.out.trans (hb4.mono HBW.out.size))
                  clear hb4
                  obtain ⟨x0a, x0b, x0c, -⟩ := id F_g.out
                  go_wp2_with fail
                  clear x0a x0b x0c
                  refine (member_is (r := true) _ hP hQ hG hd (by simp [HM_d.out, HH.out])).mono ?_
                  rintro e w5 ⟨rfl, hb5⟩
                  replace F_g := Lib.hid (F_g.out.keep hb5)
                  replace HBW := Lib.hid (HBW.out.trans (hb5.mono HBW.out.size))
                  clear hb5
                  obtain ⟨x0a, x0b, x0c, -⟩ := id F_g.out
                  go_wp2_with fail
                  clear x0a x0b x0c
                  refine (member_is (r := true) _ hP hQ hG hr (by simp [HM_r.out, HH.out])).mono ?_
                  rintro e w6 ⟨rfl, hb6⟩
                  replace F_g := Lib.hid (F_g.out.keep hb6)
                  replace HBW := Lib.hid (HBW.out.trans (hb6.mono HBW.out.size))
                  clear hb6
                  obtain ⟨x0a, x0b, x0c, -⟩ := id F_g.out
                  go_wp2_with fail
                  clear x0a x0b x0c
                  refine (member_is (r := true) _ hP hQ hG hs (by simp [HM_s.out, HH.out])).mono ?_
                  rintro e w7 ⟨rfl, hb7⟩
                  replace F_g := Lib.hid (F_g.out.keep hb7)
                  replace HBW := Lib.hid (HBW.out.trans (hb7.mono HBW.out.size))
                  clear hb7
                  obtain ⟨x0a, x0b, x0c, -⟩ := id F_g.out
                  go_wp2_with fail
                  clear x0a x0b x0c
                  refine (equalHolds_any _ hP hQ hG hy ha hd hr hs hz hc H1.out).mono ?_
                  rintro e w8 ⟨rfl, hb8⟩
                  replace F_g := Lib.hid (F_g.out.keep hb8)
                  replace HBW := Lib.hid (HBW.out.trans (hb8.mono HBW.out.size))
                  clear hb8
                  obtain ⟨x0a, x0b, x0c, -⟩ := id F_g.out
                  go_wp2_with fail
                  clear x0a x0b x0c
                  refine (equalHolds_any _ hP hQ hG hy ha hd hr hs hw_ he H2.out).mono ?_
                  rintro e w9 ⟨rfl, hb9⟩
                  replace F_g := Lib.hid (F_g.out.keep hb9)
                  replace HBW := Lib.hid (HBW.out.trans (hb9.mono HBW.out.size))
                  clear hb9
                  obtain ⟨x0a, x0b, x0c, -⟩ := id F_g.out
                  go_wp2_with fail
                  go_ret
                  exact ⟨rfl, HBW.out⟩
                case pos =>
                  subst he1
                  by_cases he2 : e2 = 0
                  case neg =>
                    have hcd : (c == e) = false := by simpa using hne
                    clear hne
                    clear my ma md mr ms
                    have hn1 : (e2 != 0) = true := by simpa using he2
                    clear he2
                    have H1 := Lib.hid h1
                    have H2 := Lib.hid h2
                    clear h1 h2
                    have F_g := Lib.hid (show Boxed (w.alloc (.cells #[.int .u64 P, .int .u64 Q, .int .u64 G] 24)) (w.heap.size) P Q G from Boxed.at _ P Q G _ (w.heap.size) (by simp))
                    have HBW := Lib.hid (show Below w.heap.size w (w.alloc (.cells #[.int .u64 P, .int .u64 Q, .int .u64 G] 24)) from (Below.refl _ _).alloc (by simp <;> omega) _)
                    go_enter Try.func3, Try.ntmps3
                    obtain ⟨x0a, x0b, x0c, -⟩ := id F_g.out
                    go_wp2_with fail
                    clear x0a x0b x0c
                    refine (alive_yes _).mono ?_
                    rintro e w1 ⟨rfl, hb1⟩
                    replace F_g := Lib.hid (F_g.out.keep hb1)
                    replace HBW := Lib.hid (HBW.out.trans (hb1.mono HBW.out.size))
                    clear hb1
                    obtain ⟨x0a, x0b, x0c, -⟩ := id F_g.out
                    go_wp2_with fail
                    clear x0a x0b x0c
                    refine (gcheck_any P Q G 0 _ hP hQ hG HV.out).mono ?_
                    rintro e w2 ⟨rfl, hb2⟩
                    replace F_g := Lib.hid (F_g.out.keep hb2)
                    replace HBW := Lib.hid (HBW.out.trans (hb2.mono HBW.out.size))
                    clear hb2
                    obtain ⟨x0a, x0b, x0c, -⟩ := id F_g.out
                    go_wp2_with fail
                    clear x0a x0b x0c
                    refine (member_is (r := true) _ hP hQ hG hy (by simp [HM_y.out, HH.out])).mono ?_
                    rintro e w3 ⟨rfl, hb3⟩
                    replace F_g := Lib.hid (F_g.out.keep hb3)
                    replace HBW := Lib.hid (HBW.out.trans (hb3.mono HBW.out.size))
                    clear hb3
                    obtain ⟨x0a, x0b, x0c, -⟩ := id F_g.out
                    go_wp2_with fail
                    clear x0a x0b x0c
                    refine (member_is (r := true) _ hP hQ hG ha (by simp [HM_a.out, HH.out])).mono ?_
                    rintro e w4 ⟨rfl, hb4⟩
                    replace F_g := Lib.hid (F_g.out.keep hb4)
                    replace HBW := Lib.hid (HBW.out.trans (hb4.mono HBW.out.size))
                    clear hb4
                    obtain ⟨x0a, x0b, x0c, -⟩ := id F_g.out
                    go_wp2_with fail
                    clear x0a x0b x0c
                    refine (member_is (r := true) _ hP hQ hG hd (by simp [HM_d.out, HH.out])).mono ?_
                    rintro e w5 ⟨rfl, hb5⟩
                    replace F_g := Lib.hid (F_g.out.keep hb5)
                    replace HBW := Lib.hid (HBW.out.trans (hb5.mono HBW.out.size))
                    clear hb5
                    obtain ⟨x0a, x0b, x0c, -⟩ := id F_g.out
                    go_wp2_with fail
                    clear x0a x0b x0c
                    refine (member_is (r := true) _ hP hQ hG hr (by simp [HM_r.out, HH.out])).mono ?_
                    rintro e w6 ⟨rfl, hb6⟩
                    replace F_g := Lib.hid (F_g.out.keep hb6)
                    replace HBW := Lib.hid (HBW.out.trans (hb6.mono HBW.out.size))
                    clear hb6
                    obtain ⟨x0a, x0b, x0c, -⟩ := id F_g.out
                    go_wp2_with fail
                    clear x0a x0b x0c
                    refine (member_is (r := true) _ hP hQ hG hs (by simp [HM_s.out, HH.out])).mono ?_
                    rintro e w7 ⟨rfl, hb7⟩
                    replace F_g := Lib.hid (F_g.out.keep hb7)
                    replace HBW := Lib.hid (HBW.out.trans (hb7.mono HBW.out.size))
                    clear hb7
                    obtain ⟨x0a, x0b, x0c, -⟩ := id F_g.out
                    go_wp2_with fail
                    clear x0a x0b x0c
                    refine (equalHolds_any _ hP hQ hG hy ha hd hr hs hz hc H1.out).mono ?_
                    rintro e w8 ⟨rfl, hb8⟩
                    replace F_g := Lib.hid (F_g.out.keep hb8)
                    replace HBW := Lib.hid (HBW.out.trans (hb8.mono HBW.out.size))
                    clear hb8
                    obtain ⟨x0a, x0b, x0c, -⟩ := id F_g.out
                    go_wp2_with fail
                    clear x0a x0b x0c
                    refine (equalHolds_any _ hP hQ hG hy ha hd hr hs hw_ he H2.out).mono ?_
                    rintro e w9 ⟨rfl, hb9⟩
                    replace F_g := Lib.hid (F_g.out.keep hb9)
                    replace HBW := Lib.hid (HBW.out.trans (hb9.mono HBW.out.size))
                    clear hb9
                    obtain ⟨x0a, x0b, x0c, -⟩ := id F_g.out
                    go_wp2_with fail
                    go_ret
                    exact ⟨rfl, HBW.out⟩
                  case pos =>
                    subst he2
                    by_cases hone : one = true
                    case neg =>
                      have hcd : (c == e) = false := by simpa using hne
                      clear hne
                      clear my ma md mr ms
                      have hb_ : one = false := by simpa using hone
                      subst hb_
                      clear hone
                      have H1 := Lib.hid h1
                      have H2 := Lib.hid h2
                      clear h1 h2
                      have F_g := Lib.hid (show Boxed (w.alloc (.cells #[.int .u64 P, .int .u64 Q, .int .u64 G] 24)) (w.heap.size) P Q G from Boxed.at _ P Q G _ (w.heap.size) (by simp))
                      have HBW := Lib.hid (show Below w.heap.size w (w.alloc (.cells #[.int .u64 P, .int .u64 Q, .int .u64 G] 24)) from (Below.refl _ _).alloc (by simp <;> omega) _)
                      go_enter Try.func3, Try.ntmps3
                      obtain ⟨x0a, x0b, x0c, -⟩ := id F_g.out
                      go_wp2_with fail
                      clear x0a x0b x0c
                      refine (alive_yes _).mono ?_
                      rintro e w1 ⟨rfl, hb1⟩
                      replace F_g := Lib.hid (F_g.out.keep hb1)
                      replace HBW := Lib.hid (HBW.out.trans (hb1.mono HBW.out.size))
                      clear hb1
                      obtain ⟨x0a, x0b, x0c, -⟩ := id F_g.out
                      go_wp2_with fail
                      clear x0a x0b x0c
                      refine (gcheck_any P Q G 0 _ hP hQ hG HV.out).mono ?_
                      rintro e w2 ⟨rfl, hb2⟩
                      replace F_g := Lib.hid (F_g.out.keep hb2)
                      replace HBW := Lib.hid (HBW.out.trans (hb2.mono HBW.out.size))
                      clear hb2
                      obtain ⟨x0a, x0b, x0c, -⟩ := id F_g.out
                      go_wp2_with fail
                      clear x0a x0b x0c
                      refine (member_is (r := true) _ hP hQ hG hy (by simp [HM_y.out, HH.out])).mono ?_
                      rintro e w3 ⟨rfl, hb3⟩
                      replace F_g := Lib.hid (F_g.out.keep hb3)
                      replace HBW := Lib.hid (HBW.out.trans (hb3.mono HBW.out.size))
                      clear hb3
                      obtain ⟨x0a, x0b, x0c, -⟩ := id F_g.out
                      go_wp2_with fail
                      clear x0a x0b x0c
                      refine (member_is (r := true) _ hP hQ hG ha (by simp [HM_a.out, HH.out])).mono ?_
                      rintro e w4 ⟨rfl, hb4⟩
                      replace F_g := Lib.hid (F_g.out.keep hb4)
                      replace HBW := Lib.hid (HBW.out.trans (hb4.mono HBW.out.size))
                      clear hb4
                      obtain ⟨x0a, x0b, x0c, -⟩ := id F_g.out
                      go_wp2_with fail
                      clear x0a x0b x0c
                      refine (member_is (r := true) _ hP hQ hG hd (by simp [HM_d.out, HH.out])).mono ?_
                      rintro e w5 ⟨rfl, hb5⟩
                      replace F_g := Lib.hid (F_g.out.keep hb5)
                      replace HBW := Lib.hid (HBW.out.trans (hb5.mono HBW.out.size))
                      clear hb5
                      obtain ⟨x0a, x0b, x0c, -⟩ := id F_g.out
                      go_wp2_with fail
                      clear x0a x0b x0c
                      refine (member_is (r := true) _ hP hQ hG hr (by simp [HM_r.out, HH.out])).mono ?_
                      rintro e w6 ⟨rfl, hb6⟩
                      replace F_g := Lib.hid (F_g.out.keep hb6)
                      replace HBW := Lib.hid (HBW.out.trans (hb6.mono HBW.out.size))
                      clear hb6
                      obtain ⟨x0a, x0b, x0c, -⟩ := id F_g.out
                      go_wp2_with fail
                      clear x0a x0b x0c
                      refine (member_is (r := true) _ hP hQ hG hs (by simp [HM_s.out, HH.out])).mono ?_
                      rintro e w7 ⟨rfl, hb7⟩
                      replace F_g := Lib.hid (F_g.out.keep hb7)
                      replace HBW := Lib.hid (HBW.out.trans (hb7.mono HBW.out.size))
                      clear hb7
                      obtain ⟨x0a, x0b, x0c, -⟩ := id F_g.out
                      go_wp2_with fail
                      clear x0a x0b x0c
                      refine (equalHolds_any _ hP hQ hG hy ha hd hr hs hz hc H1.out).mono ?_
                      rintro e w8 ⟨rfl, hb8⟩
                      replace F_g := Lib.hid (F_g.out.keep hb8)
                      replace HBW := Lib.hid (HBW.out.trans (hb8.mono HBW.out.size))
                      clear hb8
                      obtain ⟨x0a, x0b, x0c, -⟩ := id F_g.out
                      go_wp2_with fail
                      clear x0a x0b x0c
                      refine (equalHolds_any _ hP hQ hG hy ha hd hr hs hw_ he H2.out).mono ?_
                      rintro e w9 ⟨rfl, hb9⟩
                      replace F_g := Lib.hid (F_g.out.keep hb9)
                      replace HBW := Lib.hid (HBW.out.trans (hb9.mono HBW.out.size))
                      clear hb9
                      obtain ⟨x0a, x0b, x0c, -⟩ := id F_g.out
                      go_wp2_with fail
                      go_ret
                      exact ⟨rfl, HBW.out⟩
                    case pos =>
                      subst hone
                      by_cases htwo : two = true
                      case neg =>
                        have hcd : (c == e) = false := by simpa using hne
                        clear hne
                        clear my ma md mr ms
                        have hb_ : two = false := by simpa using htwo
                        subst hb_
                        clear htwo
                        have H1 := Lib.hid h1
                        have H2 := Lib.hid h2
                        clear h1 h2
                        have F_g := Lib.hid (show Boxed (w.alloc (.cells #[.int .u64 P, .int .u64 Q, .int .u64 G] 24)) (w.heap.size) P Q G from Boxed.at _ P Q G _ (w.heap.size) (by simp))
                        have HBW := Lib.hid (show Below w.heap.size w (w.alloc (.cells #[.int .u64 P, .int .u64 Q, .int .u64 G] 24)) from (Below.refl _ _).alloc (by simp <;> omega) _)
                        go_enter Try.func3, Try.ntmps3
                        obtain ⟨x0a, x0b, x0c, -⟩ := id F_g.out
                        go_wp2_with fail
                        clear x0a x0b x0c
                        refine (alive_yes _).mono ?_
                        rintro e w1 ⟨rfl, hb1⟩
                        replace F_g := Lib.hid (F_g.out.keep hb1)
                        replace HBW := Lib.hid (HBW.out.trans (hb1.mono HBW.out.size))
                        clear hb1
                        obtain ⟨x0a, x0b, x0c, -⟩ := id F_g.out
                        go_wp2_with fail
                        clear x0a x0b x0c
                        refine (gcheck_any P Q G 0 _ hP hQ hG HV.out).mono ?_
                        rintro e w2 ⟨rfl, hb2⟩
                        replace F_g := Lib.hid (F_g.out.keep hb2)
                        replace HBW := Lib.hid (HBW.out.trans (hb2.mono HBW.out.size))
                        clear hb2
                        obtain ⟨x0a, x0b, x0c, -⟩ := id F_g.out
                        go_wp2_with fail
                        clear x0a x0b x0c
                        refine (member_is (r := true) _ hP hQ hG hy (by simp [HM_y.out, HH.out])).mono ?_
                        rintro e w3 ⟨rfl, hb3⟩
                        replace F_g := Lib.hid (F_g.out.keep hb3)
                        replace HBW := Lib.hid (HBW.out.trans (hb3.mono HBW.out.size))
                        clear hb3
                        obtain ⟨x0a, x0b, x0c, -⟩ := id F_g.out
                        go_wp2_with fail
                        clear x0a x0b x0c
                        refine (member_is (r := true) _ hP hQ hG ha (by simp [HM_a.out, HH.out])).mono ?_
                        rintro e w4 ⟨rfl, hb4⟩
                        replace F_g := Lib.hid (F_g.out.keep hb4)
                        replace HBW := Lib.hid (HBW.out.trans (hb4.mono HBW.out.size))
                        clear hb4
                        obtain ⟨x0a, x0b, x0c, -⟩ := id F_g.out
                        go_wp2_with fail
                        clear x0a x0b x0c
                        refine (member_is (r := true) _ hP hQ hG hd (by simp [HM_d.out, HH.out])).mono ?_
                        rintro e w5 ⟨rfl, hb5⟩
                        replace F_g := Lib.hid (F_g.out.keep hb5)
                        replace HBW := Lib.hid (HBW.out.trans (hb5.mono HBW.out.size))
                        clear hb5
                        obtain ⟨x0a, x0b, x0c, -⟩ := id F_g.out
                        go_wp2_with fail
                        clear x0a x0b x0c
                        refine (member_is (r := true) _ hP hQ hG hr (by simp [HM_r.out, HH.out])).mono ?_
                        rintro e w6 ⟨rfl, hb6⟩
                        replace F_g := Lib.hid (F_g.out.keep hb6)
                        replace HBW := Lib.hid (HBW.out.trans (hb6.mono HBW.out.size))
                        clear hb6
                        obtain ⟨x0a, x0b, x0c, -⟩ := id F_g.out
                        go_wp2_with fail
                        clear x0a x0b x0c
                        refine (member_is (r := true) _ hP hQ hG hs (by simp [HM_s.out, HH.out])).mono ?_
                        rintro e w7 ⟨rfl, hb7⟩
                        replace F_g := Lib.hid (F_g.out.keep hb7)
                        replace HBW := Lib.hid (HBW.out.trans (hb7.mono HBW.out.size))
                        clear hb7
                        obtain ⟨x0a, x0b, x0c, -⟩ := id F_g.out
                        go_wp2_with fail
                        clear x0a x0b x0c
                        refine (equalHolds_any _ hP hQ hG hy ha hd hr hs hz hc H1.out).mono ?_
                        rintro e w8 ⟨rfl, hb8⟩
                        replace F_g := Lib.hid (F_g.out.keep hb8)
                        replace HBW := Lib.hid (HBW.out.trans (hb8.mono HBW.out.size))
                        clear hb8
                        obtain ⟨x0a, x0b, x0c, -⟩ := id F_g.out
                        go_wp2_with fail
                        clear x0a x0b x0c
                        refine (equalHolds_any _ hP hQ hG hy ha hd hr hs hw_ he H2.out).mono ?_
                        rintro e w9 ⟨rfl, hb9⟩
                        replace F_g := Lib.hid (F_g.out.keep hb9)
                        replace HBW := Lib.hid (HBW.out.trans (hb9.mono HBW.out.size))
                        clear hb9
                        obtain ⟨x0a, x0b, x0c, -⟩ := id F_g.out
                        go_wp2_with fail
                        go_ret
                        exact ⟨rfl, HBW.out⟩
                      case pos =>
                        subst htwo
                        have hcd : (c == e) = false := by simpa using hne
                        obtain ⟨a1, b1, b1'⟩ : askS P Q G [z, c] [y, a, d, r, s] = 0 ∧ (powm G z P = r * powm y c P % P ∧ powm a z P = s * powm d c P % P) := by
                          rcases h1 with ⟨h, k, -⟩ | ⟨-, h, -⟩
                          · exact ⟨h, k.1 rfl⟩
                          · cases h
                        obtain ⟨a2, b2, b2'⟩ : askS P Q G [w_, e] [y, a, d, r, s] = 0 ∧ (powm G w_ P = r * powm y e P % P ∧ powm a w_ P = s * powm d e P % P) := by
                          rcases h2 with ⟨h, k, -⟩ | ⟨-, h, -⟩
                          · exact ⟨h, k.1 rfl⟩
                          · cases h
                        have cQ := (askS_zero a1).2.1 c (by simp)
                        have zQ := (askS_zero a1).2.1 z (by simp)
                        have eQ := (askS_zero a2).2.1 e (by simp)
                        have wQ := (askS_zero a2).2.1 w_ (by simp)
                        obtain ⟨m, hm⟩ : ∃ m, (c - e) % Q = m := ⟨_, rfl⟩
                        obtain ⟨n, hn⟩ : ∃ n, (z - w_) % Q = n := ⟨_, rfl⟩
                        obtain ⟨u, hu⟩ := diff_inv HG.out.pQ hc cQ he eQ hne hm
                        obtain ⟨x, hx⟩ : ∃ x, n * u % Q = x := ⟨_, rfl⟩
                        have x0 : 0 ≤ x := by rw [← hx]; exact Int.emod_nonneg _ (by omega)
                        have xQ : x < Q := by rw [← hx]; exact Int.emod_lt_of_pos _ (by omega)
                        have aP := ma.2.1
                        have UX := Lib.hid (U64.of_lt x0 (by omega))
                        have HX := Lib.hid (show ExtS P Q G c z e w_ x 0 from .inl ⟨askS_ok HH.out (by simpa using ⟨cQ, zQ, eQ, wQ⟩) (by simp), true, u, by rw [hm]; exact .inl ⟨rfl, hu⟩, .inl ⟨rfl, by rw [hn]; exact hx, rfl⟩⟩)
                        have HY := Lib.hid (sound HG.out my mr hc he hz zQ hw_ wQ b1 b2 hm hn hu hx)
                        have HD := Lib.hid (sound_of HG.out ma md ms hc cQ he eQ hne hz zQ hw_ wQ b1' b2' hm hn hu hx)
                        have H1 := Lib.hid h1
                        have H2 := Lib.hid h2
                        clear h1 h2 hm hn hu hx a1 a2 b1 b2 b1' b2' hne my ma md mr ms
                        have F_g := Lib.hid (show Boxed (w.alloc (.cells #[.int .u64 P, .int .u64 Q, .int .u64 G] 24)) (w.heap.size) P Q G from Boxed.at _ P Q G _ (w.heap.size) (by simp))
                        have HBW := Lib.hid (show Below w.heap.size w (w.alloc (.cells #[.int .u64 P, .int .u64 Q, .int .u64 G] 24)) from (Below.refl _ _).alloc (by simp <;> omega) _)
                        go_enter Try.func3, Try.ntmps3
                        obtain ⟨x0a, x0b, x0c, -⟩ := id F_g.out
                        go_wp2_with fail
                        clear x0a x0b x0c
                        refine (alive_yes _).mono ?_
                        rintro e w1 ⟨rfl, hb1⟩
                        replace F_g := Lib.hid (F_g.out.keep hb1)
                        replace HBW := Lib.hid (HBW.out.trans (hb1.mono HBW.out.size))
                        clear hb1
                        obtain ⟨x0a, x0b, x0c, -⟩ := id F_g.out
                        go_wp2_with fail
                        clear x0a x0b x0c
                        refine (gcheck_any P Q G 0 _ hP hQ hG HV.out).mono ?_
                        rintro e w2 ⟨rfl, hb2⟩
                        replace F_g := Lib.hid (F_g.out.keep hb2)
                        replace HBW := Lib.hid (HBW.out.trans (hb2.mono HBW.out.size))
                        clear hb2
                        obtain ⟨x0a, x0b, x0c, -⟩ := id F_g.out
                        go_wp2_with fail
                        clear x0a x0b x0c
                        refine (member_is (r := true) _ hP hQ hG hy (by simp [HM_y.out, HH.out])).mono ?_
                        rintro e w3 ⟨rfl, hb3⟩
                        replace F_g := Lib.hid (F_g.out.keep hb3)
                        replace HBW := Lib.hid (HBW.out.trans (hb3.mono HBW.out.size))
                        clear hb3
                        obtain ⟨x0a, x0b, x0c, -⟩ := id F_g.out
                        go_wp2_with fail
                        clear x0a x0b x0c
                        refine (member_is (r := true) _ hP hQ hG ha (by simp [HM_a.out, HH.out])).mono ?_
                        rintro e w4 ⟨rfl, hb4⟩
                        replace F_g := Lib.hid (F_g.out.keep hb4)
                        replace HBW := Lib.hid (HBW.out.trans (hb4.mono HBW.out.size))
                        clear hb4
                        obtain ⟨x0a, x0b, x0c, -⟩ := id F_g.out
                        go_wp2_with fail
                        clear x0a x0b x0c
                        refine (member_is (r := true) _ hP hQ hG hd (by simp [HM_d.out, HH.out])).mono ?_
                        rintro e w5 ⟨rfl, hb5⟩
                        replace F_g := Lib.hid (F_g.out.keep hb5)
                        replace HBW := Lib.hid (HBW.out.trans (hb5.mono HBW.out.size))
                        clear hb5
                        obtain ⟨x0a, x0b, x0c, -⟩ := id F_g.out
                        go_wp2_with fail
                        clear x0a x0b x0c
                        refine (member_is (r := true) _ hP hQ hG hr (by simp [HM_r.out, HH.out])).mono ?_
                        rintro e w6 ⟨rfl, hb6⟩
                        replace F_g := Lib.hid (F_g.out.keep hb6)
                        replace HBW := Lib.hid (HBW.out.trans (hb6.mono HBW.out.size))
                        clear hb6
                        obtain ⟨x0a, x0b, x0c, -⟩ := id F_g.out
                        go_wp2_with fail
                        clear x0a x0b x0c
                        refine (member_is (r := true) _ hP hQ hG hs (by simp [HM_s.out, HH.out])).mono ?_
                        rintro e w7 ⟨rfl, hb7⟩
                        replace F_g := Lib.hid (F_g.out.keep hb7)
                        replace HBW := Lib.hid (HBW.out.trans (hb7.mono HBW.out.size))
                        clear hb7
                        obtain ⟨x0a, x0b, x0c, -⟩ := id F_g.out
                        go_wp2_with fail
                        clear x0a x0b x0c
                        refine (equalHolds_any _ hP hQ hG hy ha hd hr hs hz hc H1.out).mono ?_
                        rintro e w8 ⟨rfl, hb8⟩
                        replace F_g := Lib.hid (F_g.out.keep hb8)
                        replace HBW := Lib.hid (HBW.out.trans (hb8.mono HBW.out.size))
                        clear hb8
                        obtain ⟨x0a, x0b, x0c, -⟩ := id F_g.out
                        go_wp2_with fail
                        clear x0a x0b x0c
                        refine (equalHolds_any _ hP hQ hG hy ha hd hr hs hw_ he H2.out).mono ?_
                        rintro e w9 ⟨rfl, hb9⟩
                        replace F_g := Lib.hid (F_g.out.keep hb9)
                        replace HBW := Lib.hid (HBW.out.trans (hb9.mono HBW.out.size))
                        clear hb9
                        obtain ⟨x0a, x0b, x0c, -⟩ := id F_g.out
                        go_wp2_with fail
                        clear x0a x0b x0c
                        refine (sextract_any _ hP hQ hG hc hz he hw_ HX.out).mono ?_
                        rintro e w10 ⟨rfl, hb10⟩
                        replace F_g := Lib.hid (F_g.out.keep hb10)
                        replace HBW := Lib.hid (HBW.out.trans (hb10.mono HBW.out.size))
                        clear hb10
                        obtain ⟨x0a, x0b, x0c, -⟩ := id F_g.out
                        go_wp2_with fail
                        clear x0a x0b x0c
                        refine (pow_ok P Q G G x y _ HH.out hG gP UX.out HY.out).mono ?_
                        rintro e w11 ⟨rfl, hb11⟩
                        replace F_g := Lib.hid (F_g.out.keep hb11)
                        replace HBW := Lib.hid (HBW.out.trans (hb11.mono HBW.out.size))
                        clear hb11
                        obtain ⟨x0a, x0b, x0c, -⟩ := id F_g.out
                        go_wp2_with fail
                        clear x0a x0b x0c
                        refine (pow_ok P Q G a x d _ HH.out ha aP UX.out HD.out).mono ?_
                        rintro e w12 ⟨rfl, hb12⟩
                        replace F_g := Lib.hid (F_g.out.keep hb12)
                        replace HBW := Lib.hid (HBW.out.trans (hb12.mono HBW.out.size))
                        clear hb12
                        obtain ⟨x0a, x0b, x0c, -⟩ := id F_g.out
                        go_wp2_with fail
                        go_ret
                        exact ⟨rfl, HBW.out⟩
              case pos =>
                have hcd : (c == e) = true := by simpa using hne
                clear hne
                clear my ma md mr ms
                have F_g := Lib.hid (show Boxed (w.alloc (.cells #[.int .u64 P, .int .u64 Q, .int .u64 G] 24)) (w.heap.size) P Q G from Boxed.at _ P Q G _ (w.heap.size) (by simp))
                have HBW := Lib.hid (show Below w.heap.size w (w.alloc (.cells #[.int .u64 P, .int .u64 Q, .int .u64 G] 24)) from (Below.refl _ _).alloc (by simp <;> omega) _)
                go_enter Try.func3, Try.ntmps3
                obtain ⟨x0a, x0b, x0c, -⟩ := id F_g.out
                go_wp2_with fail
                clear x0a x0b x0c
                refine (alive_yes _).mono ?_
                rintro e w1 ⟨rfl, hb1⟩
                replace F_g := Lib.hid (F_g.out.keep hb1)
                replace HBW := Lib.hid (HBW.out.trans (hb1.mono HBW.out.size))
                clear hb1
                obtain ⟨x0a, x0b, x0c, -⟩ := id F_g.out
                go_wp2_with fail
                clear x0a x0b x0c
                refine (gcheck_any P Q G 0 _ hP hQ hG HV.out).mono ?_
                rintro e w2 ⟨rfl, hb2⟩
                replace F_g := Lib.hid (F_g.out.keep hb2)
                replace HBW := Lib.hid (HBW.out.trans (hb2.mono HBW.out.size))
                clear hb2
                obtain ⟨x0a, x0b, x0c, -⟩ := id F_g.out
                go_wp2_with fail
                clear x0a x0b x0c
                refine (member_is (r := true) _ hP hQ hG hy (by simp [HM_y.out, HH.out])).mono ?_
                rintro e w3 ⟨rfl, hb3⟩
                replace F_g := Lib.hid (F_g.out.keep hb3)
                replace HBW := Lib.hid (HBW.out.trans (hb3.mono HBW.out.size))
                clear hb3
                obtain ⟨x0a, x0b, x0c, -⟩ := id F_g.out
                go_wp2_with fail
                clear x0a x0b x0c
                refine (member_is (r := true) _ hP hQ hG ha (by simp [HM_a.out, HH.out])).mono ?_
                rintro e w4 ⟨rfl, hb4⟩
                replace F_g := Lib.hid (F_g.out.keep hb4)
                replace HBW := Lib.hid (HBW.out.trans (hb4.mono HBW.out.size))
                clear hb4
                obtain ⟨x0a, x0b, x0c, -⟩ := id F_g.out
                go_wp2_with fail
                clear x0a x0b x0c
                refine (member_is (r := true) _ hP hQ hG hd (by simp [HM_d.out, HH.out])).mono ?_
                rintro e w5 ⟨rfl, hb5⟩
                replace F_g := Lib.hid (F_g.out.keep hb5)
                replace HBW := Lib.hid (HBW.out.trans (hb5.mono HBW.out.size))
                clear hb5
                obtain ⟨x0a, x0b, x0c, -⟩ := id F_g.out
                go_wp2_with fail
                clear x0a x0b x0c
                refine (member_is (r := true) _ hP hQ hG hr (by simp [HM_r.out, HH.out])).mono ?_
                rintro e w6 ⟨rfl, hb6⟩
                replace F_g := Lib.hid (F_g.out.keep hb6)
                replace HBW := Lib.hid (HBW.out.trans (hb6.mono HBW.out.size))
                clear hb6
                obtain ⟨x0a, x0b, x0c, -⟩ := id F_g.out
                go_wp2_with fail
                clear x0a x0b x0c
                refine (member_is (r := true) _ hP hQ hG hs (by simp [HM_s.out, HH.out])).mono ?_
                rintro e w7 ⟨rfl, hb7⟩
                replace F_g := Lib.hid (F_g.out.keep hb7)
                replace HBW := Lib.hid (HBW.out.trans (hb7.mono HBW.out.size))
                clear hb7
                obtain ⟨x0a, x0b, x0c, -⟩ := id F_g.out
                go_wp2_with fail
                go_ret
                exact ⟨rfl, HBW.out⟩


set_option maxRecDepth 100000 in
theorem lifted (os : Os) (started : os.Started) (H : Type) (enc : TypeId × Value → H) :
    ReturnsInHanded {} Try.checked os 3 .any (Rows.proofEqualSoundSpec.pre6 enc Try.prog Try.f3 Rows.proofEqualSoundRow.domain false) (Rows.proofEqualSoundSpec.post enc Try.prog Try.f3 false true false false) := by
  refine returnsInHanded_of_change (C := Try.checked) own started (by kernel_rfl) Try.func3
    (ChangeSpec.witness6 (enc := enc) (C := Try.checked) false ⟨#[], #[.agg #[.int .u64 0, .int .u64 0, .int .u64 0], .int .u64 0, .int .u64 0, .int .u64 0, .int .u64 0, .int .u64 0, .int .u64 0, .int .u64 0, .int .u64 0, .int .u64 0], []⟩ 8 (by kernel_rfl) (by kernel_rfl) (by kernel_rfl) (by kernel_rfl)) ?_
  intro W base args ds gs before hval0 hW _ _
  have hval : ∀ (j : Nat) t v, Try.f3.params[j]? = some t → args[j]? = some v → Value.okWide Try.prog W .any base t v := hval0
  have hW' := hW
  obtain ⟨p, q, hA0, hV, rfl, hfz, hnd⟩ := hW
  have hA : DataW.TrodAll enc Try.prog W 0 (fun _ => true) true Try.f3.params.toList args.toList ds p := hA0
  rw [Try.params3] at hA hval
  have hK := hA
  obtain ⟨v0, vs0, d0, ds0, p0, q0, hargs, rfl, rfl, h0, r0⟩ := trodAll_cons hA
  obtain ⟨v1, vs1, d1, ds1, p1, q1, rfl, rfl, rfl, h1, r1⟩ := trodAll_cons r0
  obtain ⟨v2, vs2, d2, ds2, p2, q2, rfl, rfl, rfl, h2, r2⟩ := trodAll_cons r1
  obtain ⟨v3, vs3, d3, ds3, p3, q3, rfl, rfl, rfl, h3, r3⟩ := trodAll_cons r2
  obtain ⟨v4, vs4, d4, ds4, p4, q4, rfl, rfl, rfl, h4, r4⟩ := trodAll_cons r3
  obtain ⟨v5, vs5, d5, ds5, p5, q5, rfl, rfl, rfl, h5, r5⟩ := trodAll_cons r4
  obtain ⟨v6, vs6, d6, ds6, p6, q6, rfl, rfl, rfl, h6, r6⟩ := trodAll_cons r5
  obtain ⟨v7, vs7, d7, ds7, p7, q7, rfl, rfl, rfl, h7, r7⟩ := trodAll_cons r6
  obtain ⟨v8, vs8, d8, ds8, p8, q8, rfl, rfl, rfl, h8, r8⟩ := trodAll_cons r7
  obtain ⟨v9, vs9, d9, ds9, p9, q9, rfl, rfl, rfl, h9, r9⟩ := trodAll_cons r8
  obtain ⟨rfl, rfl, rfl⟩ := trodAll_nil r9
  obtain rfl : args = #[v0, v1, v2, v3, v4, v5, v6, v7, v8, v9] := by cases args; simp_all
  obtain ⟨rfl, rfl⟩ := trodVars_none hV
  obtain ⟨P, Q, G, rfl, uP, uQ, uG⟩ := open_group (hval 0 24 v0 rfl rfl) h0
  obtain ⟨y, rfl, uy⟩ := open_u64 (hval 1 22 v1 rfl rfl) h1
  obtain ⟨a, rfl, ua⟩ := open_u64 (hval 2 22 v2 rfl rfl) h2
  obtain ⟨d, rfl, ud⟩ := open_u64 (hval 3 22 v3 rfl rfl) h3
  obtain ⟨r, rfl, ur⟩ := open_u64 (hval 4 22 v4 rfl rfl) h4
  obtain ⟨s, rfl, us⟩ := open_u64 (hval 5 22 v5 rfl rfl) h5
  obtain ⟨c, rfl, uc⟩ := open_u64 (hval 6 22 v6 rfl rfl) h6
  obtain ⟨z, rfl, uz⟩ := open_u64 (hval 7 22 v7 rfl rfl) h7
  obtain ⟨e, rfl, ue⟩ := open_u64 (hval 8 22 v8 rfl rfl) h8
  obtain ⟨w_, rfl, uw_⟩ := open_u64 (hval 9 22 v9 rfl rfl) h9
  clear hA0 hval0
  refine (walk P Q G y a d r s c z e w_ W uP uQ uG uy ua ud ur us uc uz ue uw_).mono fun e W' ⟨he, bel⟩ => ?_
  subst he
  exact ⟨_, rfl, _, _, _, [], _, [], hW', trodAll_mk1 (shut_bool Try.underlying4 _), trodAll_stays laidOut (by kernel_rfl) hK bel, rfl, bel.frame _, fun h => by cases h⟩

theorem over : Rows.proofEqualSoundRow.holds Try.pinned (OpenSpec.ofChange Rows.proofEqualSoundSpec) :=
  OpenClaim.holds_of_wide 3 Try.f3 rfl rfl rfl rfl rfl rfl rfl ⟨rfl, rfl, rfl, rfl, rfl⟩ rfl rfl rfl rfl rfl (by kernel_rfl) Try.func3 (by kernel_rfl)
    (of_decide_eq_true (by kernel_rfl)) (by unfold Func.isWrapper; first | (rw [if_pos (by decide +kernel)]; kernel_rfl) | (rw [if_neg (by decide +kernel)]; exact ⟨rfl, rfl⟩))
    (fun os started H enc _ => lifted os started H enc)

theorem proved : Rows.ProofEqualSoundSaid := over
#print axioms proved
end Go.Proofs.Ytmcpfinnhgbcpaa.lawEqSound
