/- SchnorrExtracts: the statement: for every input the law returns true, and the arguments read as before. -/
import Derived.Test.YtanlnhjjdiaphaaAux31
import Derived.Test.YtanlnhjjdiaphaaLaw31
import Derived.Test.YtanlnhjjdiaphaaOpen
import Derived.Test.YtanlnhjjdiaphaaRows
namespace Go.Proofs.Ytanlnhjjdiaphaa.lawExtracts
open Go.ChangeShapes Go.WideShapes Go.ChangeAt Go.RowKit Num
set_option linter.unusedSimpArgs false
set_option linter.unusedVariables false

set_option maxRecDepth 100000 in
set_option maxHeartbeats 12800000 in
theorem walk (P Q G y r c s d t : Int) (w : World) (uP : U64 P) (uQ : U64 Q) (uG : U64 G) (uy : U64 y) (ur : U64 r) (uc : U64 c) (us : U64 s) (ud : U64 d) (ut : U64 t) :
    Calls Try.prog 5 #[.agg #[.int .u64 P, .int .u64 Q, .int .u64 G], .int .u64 y, .int .u64 r, .int .u64 c, .int .u64 s, .int .u64 d, .int .u64 t] w fun e w' => e = .returned (.bool true) ∧ Below w.heap.size w w' := by
  have hP := uP.1
  have hQ := uQ.1
  have hG := uG.1
  have hy := uy.1
  have hr := ur.1
  have hc := uc.1
  have hs := us.1
  have hd := ud.1
  have ht := ut.1
  by_cases hv : Valid P Q G
  case neg =>
    have HV := Lib.hid (show ValidS P Q G 300 from .inr ⟨hv, rfl⟩)
    clear hv
    have F_g := Lib.hid (show Boxed (w.alloc (.cells #[.int .u64 P, .int .u64 Q, .int .u64 G] 24)) (w.heap.size) P Q G from Boxed.at _ P Q G _ (w.heap.size) (by simp))
    have HBW := Lib.hid (show Below w.heap.size w (w.alloc (.cells #[.int .u64 P, .int .u64 Q, .int .u64 G] 24)) from (Below.refl _ _).alloc (by simp <;> omega) _)
    go_enter Try.func5, Try.ntmps5
    obtain ⟨x0a, x0b, x0c, -⟩ := id F_g.out
    go_wp2_with fail
    clear x0a x0b x0c
    refine (alive_yes _).mono ?_
    rintro e w1 ⟨rfl, hb1⟩
    replace F_g := Lib.hid (F_g.out.keep hb1)
    replace HBW := Lib.hid (HBW.out.trans (hb1.mono HBW.out.size))
    clear hb1
    obtain ⟨x0a, x0b, x0c, -⟩ := id F_g.out
    go_wp2_with fail
    clear x0a x0b x0c
    refine (gcheck_any P Q G 300 _ hP hQ hG HV.out).mono ?_
    rintro e w2 ⟨rfl, hb2⟩
    replace F_g := Lib.hid (F_g.out.keep hb2)
    replace HBW := Lib.hid (HBW.out.trans (hb2.mono HBW.out.size))
    clear hb2
    obtain ⟨x0a, x0b, x0c, -⟩ := id F_g.out
    go_wp2_with fail
    go_ret
    exact ⟨rfl, HBW.out⟩
  case pos =>
    have HV := Lib.hid (show ValidS P Q G 0 from .inl ⟨hv, rfl⟩)
    have HG := Lib.hid hv.grp
    have HH := Lib.hid hv.has
    obtain ⟨p5, p3, _, pq, g2, gP⟩ := id hv.1
    have q3 : Q < 1073741824 := by omega
    clear hv pq
    by_cases my : Mem P Q y
    case neg =>
      have HM_y := Lib.hid my
      clear my
      have F_g := Lib.hid (show Boxed (w.alloc (.cells #[.int .u64 P, .int .u64 Q, .int .u64 G] 24)) (w.heap.size) P Q G from Boxed.at _ P Q G _ (w.heap.size) (by simp))
      have HBW := Lib.hid (show Below w.heap.size w (w.alloc (.cells #[.int .u64 P, .int .u64 Q, .int .u64 G] 24)) from (Below.refl _ _).alloc (by simp <;> omega) _)
      go_enter Try.func5, Try.ntmps5
      obtain ⟨x0a, x0b, x0c, -⟩ := id F_g.out
      go_wp2_with fail
      clear x0a x0b x0c
      refine (alive_yes _).mono ?_
      rintro e w1 ⟨rfl, hb1⟩
      replace F_g := Lib.hid (F_g.out.keep hb1)
      replace HBW := Lib.hid (HBW.out.trans (hb1.mono HBW.out.size))
      clear hb1
      obtain ⟨x0a, x0b, x0c, -⟩ := id F_g.out
      go_wp2_with fail
      clear x0a x0b x0c
      refine (gcheck_any P Q G 0 _ hP hQ hG HV.out).mono ?_
      rintro e w2 ⟨rfl, hb2⟩
      replace F_g := Lib.hid (F_g.out.keep hb2)
      replace HBW := Lib.hid (HBW.out.trans (hb2.mono HBW.out.size))
      clear hb2
      obtain ⟨x0a, x0b, x0c, -⟩ := id F_g.out
      go_wp2_with fail
      clear x0a x0b x0c
      refine (member_is (r := false) _ hP hQ hG hy (by simp [HM_y.out])).mono ?_
      rintro e w3 ⟨rfl, hb3⟩
      replace F_g := Lib.hid (F_g.out.keep hb3)
      replace HBW := Lib.hid (HBW.out.trans (hb3.mono HBW.out.size))
      clear hb3
      obtain ⟨x0a, x0b, x0c, -⟩ := id F_g.out
      go_wp2_with fail
      go_ret
      exact ⟨rfl, HBW.out⟩
    case pos =>
      have HM_y := Lib.hid my
      by_cases mr : Mem P Q r
      case neg =>
        have HM_r := Lib.hid mr
        clear mr
        have F_g := Lib.hid (show Boxed (w.alloc (.cells #[.int .u64 P, .int .u64 Q, .int .u64 G] 24)) (w.heap.size) P Q G from Boxed.at _ P Q G _ (w.heap.size) (by simp))
        have HBW := Lib.hid (show Below w.heap.size w (w.alloc (.cells #[.int .u64 P, .int .u64 Q, .int .u64 G] 24)) from (Below.refl _ _).alloc (by simp <;> omega) _)
        go_enter Try.func5, Try.ntmps5
        obtain ⟨x0a, x0b, x0c, -⟩ := id F_g.out
        go_wp2_with fail
        clear x0a x0b x0c
        refine (alive_yes _).mono ?_
        rintro e w1 ⟨rfl, hb1⟩
        replace F_g := Lib.hid (F_g.out.keep hb1)
        replace HBW := Lib.hid (HBW.out.trans (hb1.mono HBW.out.size))
        clear hb1
        obtain ⟨x0a, x0b, x0c, -⟩ := id F_g.out
        go_wp2_with fail
        clear x0a x0b x0c
        refine (gcheck_any P Q G 0 _ hP hQ hG HV.out).mono ?_
        rintro e w2 ⟨rfl, hb2⟩
        replace F_g := Lib.hid (F_g.out.keep hb2)
        replace HBW := Lib.hid (HBW.out.trans (hb2.mono HBW.out.size))
        clear hb2
        obtain ⟨x0a, x0b, x0c, -⟩ := id F_g.out
        go_wp2_with fail
        clear x0a x0b x0c
        refine (member_is (r := true) _ hP hQ hG hy (by simp [HM_y.out, HH.out])).mono ?_
        rintro e w3 ⟨rfl, hb3⟩
        replace F_g := Lib.hid (F_g.out.keep hb3)
        replace HBW := Lib.hid (HBW.out.trans (hb3.mono HBW.out.size))
        clear hb3
        obtain ⟨x0a, x0b, x0c, -⟩ := id F_g.out
        go_wp2_with fail
        clear x0a x0b x0c
        refine (member_is (r := false) _ hP hQ hG hr (by simp [HM_r.out])).mono ?_
        rintro e w4 ⟨rfl, hb4⟩
        replace F_g := Lib.hid (F_g.out.keep hb4)
        replace HBW := Lib.hid (HBW.out.trans (hb4.mono HBW.out.size))
        clear hb4
        obtain ⟨x0a, x0b, x0c, -⟩ := id F_g.out
        go_wp2_with fail
        go_ret
        exact ⟨rfl, HBW.out⟩
      case pos =>
        have HM_r := Lib.hid mr
        by_cases hne : c = d
        case neg =>
          obtain ⟨one, e1, h1⟩ := RetB.exists (askS P Q G [c, s] [y, r]) (powm G s P = r * powm y c P % P)
          obtain ⟨two, e2, h2⟩ := RetB.exists (askS P Q G [d, t] [y, r]) (powm G t P = r * powm y d P % P)
          by_cases he1 : e1 = 0
          case neg =>
            have hcd : (c == d) = false := by simpa using hne
            have hn1 : (e1 != 0) = true := by simpa using he1
            clear he1 hne my mr
            have H1 := Lib.hid h1
            have H2 := Lib.hid h2
            clear h1 h2
            have F_g := Lib.hid (show Boxed (w.alloc (.cells #[.int .u64 P, .int .u64 Q, .int .u64 G] 24)) (w.heap.size) P Q G from Boxed.at _ P Q G _ (w.heap.size) (by simp))
            have HBW := Lib.hid (show Below w.heap.size w (w.alloc (.cells #[.int .u64 P, .int .u64 Q, .int .u64 G] 24)) from (Below.refl _ _).alloc (by simp <;> omega) _)
            go_enter Try.func5, Try.ntmps5
            obtain ⟨x0a, x0b, x0c, -⟩ := id F_g.out
            go_wp2_with fail
            clear x0a x0b x0c
            refine (alive_yes _).mono ?_
            rintro e w1 ⟨rfl, hb1⟩
            replace F_g := Lib.hid (F_g.out.keep hb1)
            replace HBW := Lib.hid (HBW.out.trans (hb1.mono HBW.out.size))
            clear hb1
            obtain ⟨x0a, x0b, x0c, -⟩ := id F_g.out
            go_wp2_with fail
            clear x0a x0b x0c
            refine (gcheck_any P Q G 0 _ hP hQ hG HV.out).mono ?_
            rintro e w2 ⟨rfl, hb2⟩
            replace F_g := Lib.hid (F_g.out.keep hb2)
            replace HBW := Lib.hid (HBW.out.trans (hb2.mono HBW.out.size))
            clear hb2
            obtain ⟨x0a, x0b, x0c, -⟩ := id F_g.out
            go_wp2_with fail
            clear x0a x0b x0c
            refine (member_is (r := true) _ hP hQ hG hy (by simp [HM_y.out, HH.out])).mono ?_
            rintro e w3 ⟨rfl, hb3⟩
            replace F_g := Lib.hid (F_g.out.keep hb3)
            replace HBW := Lib.hid (HBW.out.trans (hb3.mono HBW.out.size))
            clear hb3
            obtain ⟨x0a, x0b, x0c, -⟩ := id F_g.out
            go_wp2_with fail
            clear x0a x0b x0c
            refine (member_is (r := true) _ hP hQ hG hr (by simp [HM_r.out, HH.out])).mono ?_
            rintro e w4 ⟨rfl, hb4⟩
            replace F_g := Lib.hid (F_g.out.keep hb4)
            replace HBW := Lib.hid (HBW.out.trans (hb4.mono HBW.out.size))
            clear hb4
            obtain ⟨x0a, x0b, x0c, -⟩ := id F_g.out
            go_wp2_with fail
            clear x0a x0b x0c
            refine (sholds_any _ hP hQ hG hy hr hc hs H1.out).mono ?_
            rintro e w5 ⟨rfl, hb5⟩
            replace F_g := Lib.hid (F_g.out.keep hb5)
            replace HBW := Lib.hid (HBW.out.trans (hb5.mono HBW.out.size))
            clear hb5
            obtain ⟨x0a, x0b, x0c, -⟩ := id F_g.out
            go_wp2_with fail
            clear x0a x0b x0c
            refine (sholds_any _ hP hQ hG hy hr hd ht H2.out).mono ?_
            rintro e w6 ⟨rfl, hb6⟩
            replace F_g := Lib.hid (F_g.out.keep hb6)
            replace HBW := Lib.hid (HBW.out.trans (hb6.mono HBW.out.size))
            clear hb6
            obtain ⟨x0a, x0b, x0c, -⟩ := id F_g.out
            go_wp2_with fail
            go_ret
            exact ⟨rfl, HBW.out⟩
          case pos =>
            subst he1
            by_cases he2 : e2 = 0
            case neg =>
              have hcd : (c == d) = false := by simpa using hne
              have hn1 : (e2 != 0) = true := by simpa using he2
              clear he2 hne my mr
              have H1 := Lib.hid h1
              have H2 := Lib.hid h2
              clear h1 h2
              have F_g := Lib.hid (show Boxed (w.alloc (.cells #[.int .u64 P, .int .u64 Q, .int .u64 G] 24)) (w.heap.size) P Q G from Boxed.at _ P Q G _ (w.heap.size) (by simp))
              have HBW := Lib.hid (show Below w.heap.size w (w.alloc (.cells #[.int .u64 P, .int .u64 Q, .int .u64 G] 24)) from (Below.refl _ _).alloc (by simp <;> omega) _)
              go_enter Try.func5, Try.ntmps5
              obtain ⟨x0a, x0b, x0c, -⟩ := id F_g.out
              go_wp2_with fail
              clear x0a x0b x0c
              refine (alive_yes _).mono ?_
              rintro e w1 ⟨rfl, hb1⟩
              replace F_g := Lib.hid (F_g.out.keep hb1)
              replace HBW := Lib.hid (HBW.out.trans (hb1.mono HBW.out.size))
              clear hb1
              obtain ⟨x0a, x0b, x0c, -⟩ := id F_g.out
              go_wp2_with fail
              clear x0a x0b x0c
              refine (gcheck_any P Q G 0 _ hP hQ hG HV.out).mono ?_
              rintro e w2 ⟨rfl, hb2⟩
              replace F_g := Lib.hid (F_g.out.keep hb2)
              replace HBW := Lib.hid (HBW.out.trans (hb2.mono HBW.out.size))
              clear hb2
              obtain ⟨x0a, x0b, x0c, -⟩ := id F_g.out
              go_wp2_with fail
              clear x0a x0b x0c
              refine (member_is (r := true) _ hP hQ hG hy (by simp [HM_y.out, HH.out])).mono ?_
              rintro e w3 ⟨rfl, hb3⟩
              replace F_g := Lib.hid (F_g.out.keep hb3)
              replace HBW := Lib.hid (HBW.out.trans (hb3.mono HBW.out.size))
              clear hb3
              obtain ⟨x0a, x0b, x0c, -⟩ := id F_g.out
              go_wp2_with fail
              clear x0a x0b x0c
              refine (member_is (r := true) _ hP hQ hG hr (by simp [HM_r.out, HH.out])).mono ?_
              rintro e w4 ⟨rfl, hb4⟩
              replace F_g := Lib.hid (F_g.out.keep hb4)
              replace HBW := Lib.hid (HBW.out.trans (hb4.mono HBW.out.size))
              clear hb4
              obtain ⟨x0a, x0b, x0c, -⟩ := id F_g.out
              go_wp2_with fail
              clear x0a x0b x0c
              refine (sholds_any _ hP hQ hG hy hr hc hs H1.out).mono ?_
              rintro e w5 ⟨rfl, hb5⟩
              replace F_g := Lib.hid (F_g.out.keep hb5)
              replace HBW := Lib.hid (HBW.out.trans (hb5.mono HBW.out.size))
              clear hb5
              obtain ⟨x0a, x0b, x0c, -⟩ := id F_g.out
              go_wp2_with fail
              clear x0a x0b x0c
              refine (sholds_any _ hP hQ hG hy hr hd ht H2.out).mono ?_
              rintro e w6 ⟨rfl, hb6⟩
              replace F_g := Lib.hid (F_g.out.keep hb6)
              replace HBW := Lib.hid (HBW.out.trans (hb6.mono HBW.out.size))
              clear hb6
              obtain ⟨x0a, x0b, x0c, -⟩ := id F_g.out
              go_wp2_with fail
              go_ret
              exact ⟨rfl, HBW.out⟩
            case pos =>
              subst he2
              by_cases hone : one = true
              case neg =>
                have hcd : (c == d) = false := by simpa using hne
                clear hne my mr
                have hb_ : one = false := by simpa using hone
                subst hb_
                clear hone
                have H1 := Lib.hid h1
                have H2 := Lib.hid h2
                clear h1 h2
                have F_g := Lib.hid (show Boxed (w.alloc (.cells #[.int .u64 P, .int .u64 Q, .int .u64 G] 24)) (w.heap.size) P Q G from Boxed.at _ P Q G _ (w.heap.size) (by simp))
                have HBW := Lib.hid (show Below w.heap.size w (w.alloc (.cells #[.int .u64 P, .int .u64 Q, .int .u64 G] 24)) from (Below.refl _ _).alloc (by simp <;> omega) _)
                go_enter Try.func5, Try.ntmps5
                obtain ⟨x0a, x0b, x0c, -⟩ := id F_g.out
                go_wp2_with fail
                clear x0a x0b x0c
                refine (alive_yes _).mono ?_
                rintro e w1 ⟨rfl, hb1⟩
                replace F_g := Lib.hid (F_g.out.keep hb1)
                replace HBW := Lib.hid (HBW.out.trans (hb1.mono HBW.out.size))
                clear hb1
                obtain ⟨x0a, x0b, x0c, -⟩ := id F_g.out
                go_wp2_with fail
                clear x0a x0b x0c
                refine (gcheck_any P Q G 0 _ hP hQ hG HV.out).mono ?_
                rintro e w2 ⟨rfl, hb2⟩
                replace F_g := Lib.hid (F_g.out.keep hb2)
                replace HBW := Lib.hid (HBW.out.trans (hb2.mono HBW.out.size))
                clear hb2
                obtain ⟨x0a, x0b, x0c, -⟩ := id F_g.out
                go_wp2_with fail
                clear x0a x0b x0c
                refine (member_is (r := true) _ hP hQ hG hy (by simp [HM_y.out, HH.out])).mono ?_
                rintro e w3 ⟨rfl, hb3⟩
                replace F_g := Lib.hid (F_g.out.keep hb3)
                replace HBW := Lib.hid (HBW.out.trans (hb3.mono HBW.out.size))
                clear hb3
                obtain ⟨x0a, x0b, x0c, -⟩ := id F_g.out
                go_wp2_with fail
                clear x0a x0b x0c
                refine (member_is (r := true) _ hP hQ hG hr (by simp [HM_r.out, HH.out])).mono ?_
                rintro e w4 ⟨rfl, hb4⟩
                replace F_g := Lib.hid (F_g.out.keep hb4)
                replace HBW := Lib.hid (HBW.out.trans (hb4.mono HBW.out.size))
                clear hb4
                obtain ⟨x0a, x0b, x0c, -⟩ := id F_g.out
                go_wp2_with fail
                clear x0a x0b x0c
                refine (sholds_any _ hP hQ hG hy hr hc hs H1.out).mono ?_
                rintro e w5 ⟨rfl, hb5⟩
                replace F_g := Lib.hid (F_g.out.keep hb5)
                replace HBW := Lib.hid (HBW.out.trans (hb5.mono HBW.out.size))
                clear hb5
                obtain ⟨x0a, x0b, x0c, -⟩ := id F_g.out
                go_wp2_with fail
                clear x0a x0b x0c
                refine (sholds_any _ hP hQ hG hy hr hd ht H2.out).mono ?_
                rintro e w6 ⟨rfl, hb6⟩
                replace F_g := Lib.hid (F_g.out.keep hb6)
                replace HBW := Lib.hid (HBW.out.trans (hb6.mono HBW.out.size))
                clear hb6
                obtain ⟨x0a, x0b, x0c, -⟩ := id F_g.out
                go_wp2_with fail
                go_ret
                exact ⟨rfl, HBW.out⟩
              case pos =>
                subst hone
                by_cases htwo : two = true
                case neg =>
                  have hcd : (c == d) = false := by simpa using hne
                  clear hne my mr
                  have hb_ : two = false := by simpa using htwo
                  subst hb_
                  clear htwo
                  have H1 := Lib.hid h1
                  have H2 := Lib.hid h2
                  clear h1 h2
                  have F_g := Lib.hid (show Boxed (w.alloc (.cells #[.int .u64 P, .int .u64 Q, .int .u64 G] 24)) (w.heap.size) P Q G from Boxed.at _ P Q G _ (w.heap.size) (by simp))
                  have HBW := Lib.hid (show Below w.heap.size w (w.alloc (.cells #[.int .u64 P, .int .u64 Q, .int .u64 G] 24)) from (Below.refl _ _).alloc (by simp <;> omega) _)
                  go_enter Try.func5, Try.ntmps5
                  obtain ⟨x0a, x0b, x0c, -⟩ := id F_g.out
                  go_wp2_with fail
                  clear x0a x0b x0c
                  refine (alive_yes _).mono ?_
                  rintro e w1 ⟨rfl, hb1⟩
                  replace F_g := Lib.hid (F_g.out.keep hb1)
                  replace HBW := Lib.hid (HBW.out.trans (hb1.mono HBW.out.size))
                  clear hb1
                  obtain ⟨x0a, x0b, x0c, -⟩ := id F_g.out
                  go_wp2_with fail
                  clear x0a x0b x0c
                  refine (gcheck_any P Q G 0 _ hP hQ hG HV.out).mono ?_
                  rintro e w2 ⟨rfl, hb2⟩
                  replace F_g := Lib.hid (F_g.out.keep hb2)
                  replace HBW := Lib.hid (HBW.out.trans (hb2.mono HBW.out.size))
                  clear hb2
                  obtain ⟨x0a, x0b, x0c, -⟩ := id F_g.out
                  go_wp2_with fail
                  clear x0a x0b x0c
                  refine (member_is (r := true) _ hP hQ hG hy (by simp [HM_y.out, HH.out])).mono ?_
                  rintro e w3 ⟨rfl, hb3⟩
                  replace F_g := Lib.hid (F_g.out.keep hb3)
                  replace HBW := Lib.hid (HBW.out.trans (hb3.mono HBW.out.size))
                  clear hb3
                  obtain ⟨x0a, x0b, x0c, -⟩ := id F_g.out
                  go_wp2_with fail
                  clear x0a x0b x0c
                  refine (member_is (r := true) _ hP hQ hG hr (by simp [HM_r.out, HH.out])).mono ?_
                  rintro e w4 ⟨rfl, hb4⟩
                  replace F_g := Lib.hid (F_g.out.keep hb4)
                  replace HBW := Lib.hid (HBW.out.trans (hb4.mono HBW.out.size))
                  clear hb4
                  obtain ⟨x0a, x0b, x0c, -⟩ := id F_g.out
                  go_wp2_with fail
                  clear x0a x0b x0c
                  refine (sholds_any _ hP hQ hG hy hr hc hs H1.out).mono ?_
                  rintro e w5 ⟨rfl, hb5⟩
                  replace F_g := Lib.hid (F_g.out.keep hb5)
                  replace HBW := Lib.hid (HBW.out.trans (hb5.mono HBW.out.size))
                  clear hb5
                  obtain ⟨x0a, x0b, x0c, -⟩ := id F_g.out
                  go_wp2_with fail
                  clear x0a x0b x0c
                  refine (sholds_any _ hP hQ hG hy hr hd ht H2.out).mono ?_
                  rintro e w6 ⟨rfl, hb6⟩
                  replace F_g := Lib.hid (F_g.out.keep hb6)
                  replace HBW := Lib.hid (HBW.out.trans (hb6.mono HBW.out.size))
                  clear hb6
                  obtain ⟨x0a, x0b, x0c, -⟩ := id F_g.out
                  go_wp2_with fail
                  go_ret
                  exact ⟨rfl, HBW.out⟩
                case pos =>
                  subst htwo
                  have hcd : (c == d) = false := by simpa using hne
                  obtain ⟨a1, b1⟩ : askS P Q G [c, s] [y, r] = 0 ∧ powm G s P = r * powm y c P % P := by
                    rcases h1 with ⟨h, k, -⟩ | ⟨-, h, -⟩
                    · exact ⟨h, k.1 rfl⟩
                    · cases h
                  obtain ⟨a2, b2⟩ : askS P Q G [d, t] [y, r] = 0 ∧ powm G t P = r * powm y d P % P := by
                    rcases h2 with ⟨h, k, -⟩ | ⟨-, h, -⟩
                    · exact ⟨h, k.1 rfl⟩
                    · cases h
                  have cQ := (askS_zero a1).2.1 c (by simp)
                  have sQ := (askS_zero a1).2.1 s (by simp)
                  have dQ := (askS_zero a2).2.1 d (by simp)
                  have tQ := (askS_zero a2).2.1 t (by simp)
                  obtain ⟨m, hm⟩ : ∃ m, (c - d) % Q = m := ⟨_, rfl⟩
                  obtain ⟨n, hn⟩ : ∃ n, (s - t) % Q = n := ⟨_, rfl⟩
                  obtain ⟨u, hu⟩ := diff_inv HG.out.pQ hc cQ hd dQ hne hm
                  obtain ⟨x, hx⟩ : ∃ x, n * u % Q = x := ⟨_, rfl⟩
                  have x0 : 0 ≤ x := by rw [← hx]; exact Int.emod_nonneg _ (by omega)
                  have xQ : x < Q := by rw [← hx]; exact Int.emod_lt_of_pos _ (by omega)
                  have UX := Lib.hid (U64.of_lt x0 (by omega))
                  have HX := Lib.hid (show ExtS P Q G c s d t x 0 from .inl ⟨askS_ok HH.out (by simpa using ⟨cQ, sQ, dQ, tQ⟩) (by simp), true, u, by rw [hm]; exact .inl ⟨rfl, hu⟩, .inl ⟨rfl, by rw [hn]; exact hx, rfl⟩⟩)
                  have HY := Lib.hid (sound HG.out my mr hc hd hs sQ ht tQ b1 b2 hm hn hu hx)
                  have H1 := Lib.hid h1
                  have H2 := Lib.hid h2
                  clear h1 h2 hm hn hu hx a1 a2 b1 b2 hne my mr
                  have F_g := Lib.hid (show Boxed (w.alloc (.cells #[.int .u64 P, .int .u64 Q, .int .u64 G] 24)) (w.heap.size) P Q G from Boxed.at _ P Q G _ (w.heap.size) (by simp))
                  have HBW := Lib.hid (show Below w.heap.size w (w.alloc (.cells #[.int .u64 P, .int .u64 Q, .int .u64 G] 24)) from (Below.refl _ _).alloc (by simp <;> omega) _)
                  go_enter Try.func5, Try.ntmps5
                  obtain ⟨x0a, x0b, x0c, -⟩ := id F_g.out
                  go_wp2_with fail
                  clear x0a x0b x0c
                  refine (alive_yes _).mono ?_
                  rintro e w1 ⟨rfl, hb1⟩
                  replace F_g := Lib.hid (F_g.out.keep hb1)
                  replace HBW := Lib.hid (HBW.out.trans (hb1.mono HBW.out.size))
                  clear hb1
                  obtain ⟨x0a, x0b, x0c, -⟩ := id F_g.out
                  go_wp2_with fail
                  clear x0a x0b x0c
                  refine (gcheck_any P Q G 0 _ hP hQ hG HV.out).mono ?_
                  rintro e w2 ⟨rfl, hb2⟩
                  replace F_g := Lib.hid (F_g.out.keep hb2)
                  replace HBW := Lib.hid (HBW.out.trans (hb2.mono HBW.out.size))
                  clear hb2
                  obtain ⟨x0a, x0b, x0c, -⟩ := id F_g.out
                  go_wp2_with fail
                  clear x0a x0b x0c
                  refine (member_is (r := true) _ hP hQ hG hy (by simp [HM_y.out, HH.out])).mono ?_
                  rintro e w3 ⟨rfl, hb3⟩
                  replace F_g := Lib.hid (F_g.out.keep hb3)
                  replace HBW := Lib.hid (HBW.out.trans (hb3.mono HBW.out.size))
                  clear hb3
                  obtain ⟨x0a, x0b, x0c, -⟩ := id F_g.out
                  go_wp2_with fail
                  clear x0a x0b x0c
                  refine (member_is (r := true) _ hP hQ hG hr (by simp [HM_r.out, HH.out])).mono ?_
                  rintro e w4 ⟨rfl, hb4⟩
                  replace F_g := Lib.hid (F_g.out.keep hb4)
                  replace HBW := Lib.hid (HBW.out.trans (hb4.mono HBW.out.size))
                  clear hb4
                  obtain ⟨x0a, x0b, x0c, -⟩ := id F_g.out
                  go_wp2_with fail
                  clear x0a x0b x0c
                  refine (sholds_any _ hP hQ hG hy hr hc hs H1.out).mono ?_
                  rintro e w5 ⟨rfl, hb5⟩
                  replace F_g := Lib.hid (F_g.out.keep hb5)
                  replace HBW := Lib.hid (HBW.out.trans (hb5.mono HBW.out.size))
                  clear hb5
                  obtain ⟨x0a, x0b, x0c, -⟩ := id F_g.out
                  go_wp2_with fail
                  clear x0a x0b x0c
                  refine (sholds_any _ hP hQ hG hy hr hd ht H2.out).mono ?_
                  rintro e w6 ⟨rfl, hb6⟩
                  replace F_g := Lib.hid (F_g.out.keep hb6)
                  replace HBW := Lib.hid (HBW.out.trans (hb6.mono HBW.out.size))
                  clear hb6
                  obtain ⟨x0a, x0b, x0c, -⟩ := id F_g.out
                  go_wp2_with fail
                  clear x0a x0b x0c
                  refine (sextract_any _ hP hQ hG hc hs hd ht HX.out).mono ?_
                  rintro e w7 ⟨rfl, hb7⟩
                  replace F_g := Lib.hid (F_g.out.keep hb7)
                  replace HBW := Lib.hid (HBW.out.trans (hb7.mono HBW.out.size))
                  clear hb7
                  obtain ⟨x0a, x0b, x0c, -⟩ := id F_g.out
                  go_wp2_with fail
                  clear x0a x0b x0c
                  refine (pow_ok P Q G G x y _ HH.out hG gP UX.out HY.out).mono ?_
                  rintro e w8 ⟨rfl, hb8⟩
                  replace F_g := Lib.hid (F_g.out.keep hb8)
                  replace HBW := Lib.hid (HBW.out.trans (hb8.mono HBW.out.size))
                  clear hb8
                  obtain ⟨x0a, x0b, x0c, -⟩ := id F_g.out
                  go_wp2_with fail
                  clear x0a x0b x0c
                  refine (is_yes y _).mono ?_
                  rintro e w9 ⟨rfl, rfl⟩
                  obtain ⟨x0a, x0b, x0c, -⟩ := id F_g.out
                  go_wp2_with fail
                  go_ret
                  exact ⟨rfl, HBW.out⟩
        case pos =>
          have hcd : (c == d) = true := by simpa using hne
          clear hne
          have F_g := Lib.hid (show Boxed (w.alloc (.cells #[.int .u64 P, .int .u64 Q, .int .u64 G] 24)) (w.heap.size) P Q G from Boxed.at _ P Q G _ (w.heap.size) (by simp))
          have HBW := Lib.hid (show Below w.heap.size w (w.alloc (.cells #[.int .u64 P, .int .u64 Q, .int .u64 G] 24)) from (Below.refl _ _).alloc (by simp <;> omega) _)
          go_enter Try.func5, Try.ntmps5
          obtain ⟨x0a, x0b, x0c, -⟩ := id F_g.out
          go_wp2_with fail
          clear x0a x0b x0c
          refine (alive_yes _).mono ?_
          rintro e w1 ⟨rfl, hb1⟩
          replace F_g := Lib.hid (F_g.out.keep hb1)
          replace HBW := Lib.hid (HBW.out.trans (hb1.mono HBW.out.size))
          clear hb1
          obtain ⟨x0a, x0b, x0c, -⟩ := id F_g.out
          go_wp2_with fail
          clear x0a x0b x0c
          refine (gcheck_any P Q G 0 _ hP hQ hG HV.out).mono ?_
          rintro e w2 ⟨rfl, hb2⟩
          replace F_g := Lib.hid (F_g.out.keep hb2)
          replace HBW := Lib.hid (HBW.out.trans (hb2.mono HBW.out.size))
          clear hb2
          obtain ⟨x0a, x0b, x0c, -⟩ := id F_g.out
          go_wp2_with fail
          clear x0a x0b x0c
          refine (member_is (r := true) _ hP hQ hG hy (by simp [HM_y.out, HH.out])).mono ?_
          rintro e w3 ⟨rfl, hb3⟩
          replace F_g := Lib.hid (F_g.out.keep hb3)
          replace HBW := Lib.hid (HBW.out.trans (hb3.mono HBW.out.size))
          clear hb3
          obtain ⟨x0a, x0b, x0c, -⟩ := id F_g.out
          go_wp2_with fail
          clear x0a x0b x0c
          refine (member_is (r := true) _ hP hQ hG hr (by simp [HM_r.out, HH.out])).mono ?_
          rintro e w4 ⟨rfl, hb4⟩
          replace F_g := Lib.hid (F_g.out.keep hb4)
          replace HBW := Lib.hid (HBW.out.trans (hb4.mono HBW.out.size))
          clear hb4
          obtain ⟨x0a, x0b, x0c, -⟩ := id F_g.out
          go_wp2_with fail
          go_ret
          exact ⟨rfl, HBW.out⟩


set_option maxRecDepth 100000 in
theorem lifted (os : Os) (started : os.Started) (H : Type) (enc : TypeId × Value → H) :
    ReturnsInHanded {} Try.checked os 5 .any (Rows.schnorrExtractsSpec.pre6 enc Try.prog Try.f5 Rows.schnorrExtractsRow.domain false) (Rows.schnorrExtractsSpec.post enc Try.prog Try.f5 false true false false) := by
  refine returnsInHanded_of_change (C := Try.checked) own started (by kernel_rfl) Try.func5
    (ChangeSpec.witness6 (enc := enc) (C := Try.checked) false ⟨#[], #[.agg #[.int .u64 0, .int .u64 0, .int .u64 0], .int .u64 0, .int .u64 0, .int .u64 0, .int .u64 0, .int .u64 0, .int .u64 0], []⟩ 8 (by kernel_rfl) (by kernel_rfl) (by kernel_rfl) (by kernel_rfl)) ?_
  intro W base args ds gs before hval0 hW _ _
  have hval : ∀ (j : Nat) t v, Try.f5.params[j]? = some t → args[j]? = some v → Value.okWide Try.prog W .any base t v := hval0
  have hW' := hW
  obtain ⟨p, q, hA0, hV, rfl, hfz, hnd⟩ := hW
  have hA : DataW.TrodAll enc Try.prog W 0 (fun _ => true) true Try.f5.params.toList args.toList ds p := hA0
  rw [Try.params5] at hA hval
  have hK := hA
  obtain ⟨v0, vs0, d0, ds0, p0, q0, hargs, rfl, rfl, h0, r0⟩ := trodAll_cons hA
  obtain ⟨v1, vs1, d1, ds1, p1, q1, rfl, rfl, rfl, h1, r1⟩ := trodAll_cons r0
  obtain ⟨v2, vs2, d2, ds2, p2, q2, rfl, rfl, rfl, h2, r2⟩ := trodAll_cons r1
  obtain ⟨v3, vs3, d3, ds3, p3, q3, rfl, rfl, rfl, h3, r3⟩ := trodAll_cons r2
  obtain ⟨v4, vs4, d4, ds4, p4, q4, rfl, rfl, rfl, h4, r4⟩ := trodAll_cons r3
  obtain ⟨v5, vs5, d5, ds5, p5, q5, rfl, rfl, rfl, h5, r5⟩ := trodAll_cons r4
  obtain ⟨v6, vs6, d6, ds6, p6, q6, rfl, rfl, rfl, h6, r6⟩ := trodAll_cons r5
  obtain ⟨rfl, rfl, rfl⟩ := trodAll_nil r6
  obtain rfl : args = #[v0, v1, v2, v3, v4, v5, v6] := by cases args; simp_all
  obtain ⟨rfl, rfl⟩ := trodVars_none hV
  obtain ⟨P, Q, G, rfl, uP, uQ, uG⟩ := open_group (hval 0 24 v0 rfl rfl) h0
  obtain ⟨y, rfl, uy⟩ := open_u64 (hval 1 22 v1 rfl rfl) h1
  obtain ⟨r, rfl, ur⟩ := open_u64 (hval 2 22 v2 rfl rfl) h2
  obtain ⟨c, rfl, uc⟩ := open_u64 (hval 3 22 v3 rfl rfl) h3
  obtain ⟨s, rfl, us⟩ := open_u64 (hval 4 22 v4 rfl rfl) h4
  obtain ⟨d, rfl, ud⟩ := open_u64 (hval 5 22 v5 rfl rfl) h5
  obtain ⟨t, rfl, ut⟩ := open_u64 (hval 6 22 v6 rfl rfl) h6
  clear hA0 hval0
  refine (walk P Q G y r c s d t W uP uQ uG uy ur uc us ud ut).mono fun e W' ⟨he, bel⟩ => ?_
  subst he
  exact ⟨_, rfl, _, _, _, [], _, [], hW', trodAll_mk1 (shut_bool Try.underlying4 _), trodAll_stays laidOut (by kernel_rfl) hK bel, rfl, bel.frame _, fun h => by cases h⟩

theorem over : Rows.schnorrExtractsRow.holds Try.pinned (OpenSpec.ofChange Rows.schnorrExtractsSpec) :=
  OpenClaim.holds_of_wide 5 Try.f5 rfl rfl rfl rfl rfl rfl rfl ⟨rfl, rfl, rfl, rfl, rfl⟩ rfl rfl rfl rfl rfl (by kernel_rfl) Try.func5 (by kernel_rfl)
    (of_decide_eq_true (by kernel_rfl)) (by unfold Func.isWrapper; first | (rw [if_pos (by decide +kernel)]; kernel_rfl) | (rw [if_neg (by decide +kernel)]; exact ⟨rfl, rfl⟩))
    (fun os started H enc _ => lifted os started H enc)

theorem proved : Rows.SchnorrExtractsSaid := over
#print axioms proved
end Go.Proofs.Ytanlnhjjdiaphaa.lawExtracts
