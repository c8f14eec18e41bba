/- ElgamalRefreshes: the statement: for every input the law returns true, and the arguments read as before. -/
import Derived.Test.YtffefhldfnfohaaAux32
import Derived.Test.YtffefhldfnfohaaLaw32
import Derived.Test.YtffefhldfnfohaaOpenS
import Derived.Test.YtffefhldfnfohaaRows
namespace Go.Proofs.Ytffefhldfnfohaa.lawRefreshes
open Go.ChangeShapes Go.WideShapes Go.ChangeAt Go.RowKit Num
set_option linter.unusedSimpArgs false
set_option linter.unusedVariables false

set_option maxRecDepth 100000 in
set_option maxHeartbeats 12800000 in
theorem walk (P Q G x a b r most : Int) (w : World) (uP : U64 P) (uQ : U64 Q) (uG : U64 G) (ux : U64 x) (ua : U64 a) (ub : U64 b) (ur : U64 r) (ut : -9223372036854775808 ≤ most ∧ most ≤ 9223372036854775807) :
    Calls Try.prog 10 #[.agg #[.int .u64 P, .int .u64 Q, .int .u64 G], .int .u64 x, .agg #[.int .u64 a, .int .u64 b], .int .u64 r, .int .i64 most] w fun e w' => e = .returned (.bool true) ∧ Below w.heap.size w w' := by
  obtain ⟨tl, tu⟩ := ut
  have hP := uP.1
  have hQ := uQ.1
  have hG := uG.1
  have hx := ux.1
  have ha := ua.1
  have hb := ub.1
  have hr := ur.1
  by_cases hv : Valid P Q G
  case neg =>
    obtain ⟨r_, e_, hC⟩ := ValS.exists P Q G a b
    have HC := Lib.hid hC
    clear hC
    have HV := Lib.hid (show ValidS P Q G 300 from .inr ⟨hv, rfl⟩)
    clear hv
    have F_g := Lib.hid (show Boxed ((w.alloc (.cells #[.int .u64 P, .int .u64 Q, .int .u64 G] 24)).alloc (.cells #[.int .u64 a, .int .u64 b] 26)) (w.heap.size) P Q G from (Boxed.at _ P Q G _ (w.heap.size) (by simp)).alloc _)
    have F_c := Lib.hid (show Pair ((w.alloc (.cells #[.int .u64 P, .int .u64 Q, .int .u64 G] 24)).alloc (.cells #[.int .u64 a, .int .u64 b] 26)) (w.heap.size + 1) a b from Pair.at _ a b _ (w.heap.size + 1) (by simp))
    have HBW := Lib.hid (show Below w.heap.size w ((w.alloc (.cells #[.int .u64 P, .int .u64 Q, .int .u64 G] 24)).alloc (.cells #[.int .u64 a, .int .u64 b] 26)) from ((Below.refl _ _).alloc (by simp <;> omega) _).alloc (by simp <;> omega) _)
    go_enter Try.func10, Try.ntmps10
    obtain ⟨x0a, x0b, x0c, -⟩ := id F_g.out
    obtain ⟨x1a, x1b, x1c, x1d, -⟩ := id F_c.out
    go_wp2_with fail
    clear x0a x0b x0c x1a x1b x1c x1d
    refine (alive_yes _).mono ?_
    rintro e w1 ⟨rfl, hb1⟩
    replace F_g := Lib.hid (F_g.out.keep hb1)
    replace F_c := Lib.hid (F_c.out.keep hb1)
    replace HBW := Lib.hid (HBW.out.trans (hb1.mono HBW.out.size))
    clear hb1
    obtain ⟨x0a, x0b, x0c, -⟩ := id F_g.out
    obtain ⟨x1a, x1b, x1c, x1d, -⟩ := id F_c.out
    go_wp2_with fail
    clear x0a x0b x0c x1a x1b x1c x1d
    refine (evalid_gen _ hP hQ hG ha hb HC.out).mono ?_
    rintro e w2 ⟨rfl, hb2⟩
    replace F_g := Lib.hid (F_g.out.keep hb2)
    replace F_c := Lib.hid (F_c.out.keep hb2)
    replace HBW := Lib.hid (HBW.out.trans (hb2.mono HBW.out.size))
    clear hb2
    obtain ⟨x0a, x0b, x0c, -⟩ := id F_g.out
    obtain ⟨x1a, x1b, x1c, x1d, -⟩ := id F_c.out
    go_wp2_with fail
    clear x0a x0b x0c x1a x1b x1c x1d
    refine (gcheck_any P Q G 300 _ hP hQ hG HV.out).mono ?_
    rintro e w3 ⟨rfl, hb3⟩
    replace F_g := Lib.hid (F_g.out.keep hb3)
    replace F_c := Lib.hid (F_c.out.keep hb3)
    replace HBW := Lib.hid (HBW.out.trans (hb3.mono HBW.out.size))
    clear hb3
    obtain ⟨x0a, x0b, x0c, -⟩ := id F_g.out
    obtain ⟨x1a, x1b, x1c, x1d, -⟩ := id F_c.out
    go_wp2_with fail
    go_ret
    exact ⟨rfl, HBW.out⟩
  case pos =>
    have HV := Lib.hid (show ValidS P Q G 0 from .inl ⟨hv, rfl⟩)
    have HG := Lib.hid hv.grp
    have HH := Lib.hid hv.has
    obtain ⟨p5, p3, _, pq, g2, gP⟩ := id hv.1
    have q3 : Q < 1073741824 := by omega
    clear hv pq p3
    obtain ⟨r_, e_, hC⟩ := ValS.exists P Q G a b
    by_cases he : e_ = 0
    case neg =>
      have hnb : (e_ != 0) = true := by simpa using he
      have HC := Lib.hid hC
      clear hC he
      have F_g := Lib.hid (show Boxed ((w.alloc (.cells #[.int .u64 P, .int .u64 Q, .int .u64 G] 24)).alloc (.cells #[.int .u64 a, .int .u64 b] 26)) (w.heap.size) P Q G from (Boxed.at _ P Q G _ (w.heap.size) (by simp)).alloc _)
      have F_c := Lib.hid (show Pair ((w.alloc (.cells #[.int .u64 P, .int .u64 Q, .int .u64 G] 24)).alloc (.cells #[.int .u64 a, .int .u64 b] 26)) (w.heap.size + 1) a b from Pair.at _ a b _ (w.heap.size + 1) (by simp))
      have HBW := Lib.hid (show Below w.heap.size w ((w.alloc (.cells #[.int .u64 P, .int .u64 Q, .int .u64 G] 24)).alloc (.cells #[.int .u64 a, .int .u64 b] 26)) from ((Below.refl _ _).alloc (by simp <;> omega) _).alloc (by simp <;> omega) _)
      go_enter Try.func10, Try.ntmps10
      obtain ⟨x0a, x0b, x0c, -⟩ := id F_g.out
      obtain ⟨x1a, x1b, x1c, x1d, -⟩ := id F_c.out
      go_wp2_with fail
      clear x0a x0b x0c x1a x1b x1c x1d
      refine (alive_yes _).mono ?_
      rintro e w1 ⟨rfl, hb1⟩
      replace F_g := Lib.hid (F_g.out.keep hb1)
      replace F_c := Lib.hid (F_c.out.keep hb1)
      replace HBW := Lib.hid (HBW.out.trans (hb1.mono HBW.out.size))
      clear hb1
      obtain ⟨x0a, x0b, x0c, -⟩ := id F_g.out
      obtain ⟨x1a, x1b, x1c, x1d, -⟩ := id F_c.out
      go_wp2_with fail
      clear x0a x0b x0c x1a x1b x1c x1d
      refine (evalid_gen _ hP hQ hG ha hb HC.out).mono ?_
      rintro e w2 ⟨rfl, hb2⟩
      replace F_g := Lib.hid (F_g.out.keep hb2)
      replace F_c := Lib.hid (F_c.out.keep hb2)
      replace HBW := Lib.hid (HBW.out.trans (hb2.mono HBW.out.size))
      clear hb2
      obtain ⟨x0a, x0b, x0c, -⟩ := id F_g.out
      obtain ⟨x1a, x1b, x1c, x1d, -⟩ := id F_c.out
      go_wp2_with fail
      clear x0a x0b x0c x1a x1b x1c x1d
      refine (gcheck_any P Q G 0 _ hP hQ hG HV.out).mono ?_
      rintro e w3 ⟨rfl, hb3⟩
      replace F_g := Lib.hid (F_g.out.keep hb3)
      replace F_c := Lib.hid (F_c.out.keep hb3)
      replace HBW := Lib.hid (HBW.out.trans (hb3.mono HBW.out.size))
      clear hb3
      obtain ⟨x0a, x0b, x0c, -⟩ := id F_g.out
      obtain ⟨x1a, x1b, x1c, x1d, -⟩ := id F_c.out
      go_wp2_with fail
      go_ret
      exact ⟨rfl, HBW.out⟩
    case pos =>
      subst he
      by_cases hr_ : r_ = true
      case neg =>
        have hrf : r_ = false := by simpa using hr_
        subst hrf
        have HC := Lib.hid hC
        clear hC hr_
        have F_g := Lib.hid (show Boxed ((w.alloc (.cells #[.int .u64 P, .int .u64 Q, .int .u64 G] 24)).alloc (.cells #[.int .u64 a, .int .u64 b] 26)) (w.heap.size) P Q G from (Boxed.at _ P Q G _ (w.heap.size) (by simp)).alloc _)
        have F_c := Lib.hid (show Pair ((w.alloc (.cells #[.int .u64 P, .int .u64 Q, .int .u64 G] 24)).alloc (.cells #[.int .u64 a, .int .u64 b] 26)) (w.heap.size + 1) a b from Pair.at _ a b _ (w.heap.size + 1) (by simp))
        have HBW := Lib.hid (show Below w.heap.size w ((w.alloc (.cells #[.int .u64 P, .int .u64 Q, .int .u64 G] 24)).alloc (.cells #[.int .u64 a, .int .u64 b] 26)) from ((Below.refl _ _).alloc (by simp <;> omega) _).alloc (by simp <;> omega) _)
        go_enter Try.func10, Try.ntmps10
        obtain ⟨x0a, x0b, x0c, -⟩ := id F_g.out
        obtain ⟨x1a, x1b, x1c, x1d, -⟩ := id F_c.out
        go_wp2_with fail
        clear x0a x0b x0c x1a x1b x1c x1d
        refine (alive_yes _).mono ?_
        rintro e w1 ⟨rfl, hb1⟩
        replace F_g := Lib.hid (F_g.out.keep hb1)
        replace F_c := Lib.hid (F_c.out.keep hb1)
        replace HBW := Lib.hid (HBW.out.trans (hb1.mono HBW.out.size))
        clear hb1
        obtain ⟨x0a, x0b, x0c, -⟩ := id F_g.out
        obtain ⟨x1a, x1b, x1c, x1d, -⟩ := id F_c.out
        go_wp2_with fail
        clear x0a x0b x0c x1a x1b x1c x1d
        refine (evalid_gen _ hP hQ hG ha hb HC.out).mono ?_
        rintro e w2 ⟨rfl, hb2⟩
        replace F_g := Lib.hid (F_g.out.keep hb2)
        replace F_c := Lib.hid (F_c.out.keep hb2)
        replace HBW := Lib.hid (HBW.out.trans (hb2.mono HBW.out.size))
        clear hb2
        obtain ⟨x0a, x0b, x0c, -⟩ := id F_g.out
        obtain ⟨x1a, x1b, x1c, x1d, -⟩ := id F_c.out
        go_wp2_with fail
        clear x0a x0b x0c x1a x1b x1c x1d
        refine (gcheck_any P Q G 0 _ hP hQ hG HV.out).mono ?_
        rintro e w3 ⟨rfl, hb3⟩
        replace F_g := Lib.hid (F_g.out.keep hb3)
        replace F_c := Lib.hid (F_c.out.keep hb3)
        replace HBW := Lib.hid (HBW.out.trans (hb3.mono HBW.out.size))
        clear hb3
        obtain ⟨x0a, x0b, x0c, -⟩ := id F_g.out
        obtain ⟨x1a, x1b, x1c, x1d, -⟩ := id F_c.out
        go_wp2_with fail
        go_ret
        exact ⟨rfl, HBW.out⟩
      case pos =>
        by_cases hxQ : x < Q
        case neg =>
          subst hr_
          have HC := Lib.hid hC
          clear hC
          have hxQ_ : Q ≤ x := by omega
          clear hxQ
          have F_g := Lib.hid (show Boxed ((w.alloc (.cells #[.int .u64 P, .int .u64 Q, .int .u64 G] 24)).alloc (.cells #[.int .u64 a, .int .u64 b] 26)) (w.heap.size) P Q G from (Boxed.at _ P Q G _ (w.heap.size) (by simp)).alloc _)
          have F_c := Lib.hid (show Pair ((w.alloc (.cells #[.int .u64 P, .int .u64 Q, .int .u64 G] 24)).alloc (.cells #[.int .u64 a, .int .u64 b] 26)) (w.heap.size + 1) a b from Pair.at _ a b _ (w.heap.size + 1) (by simp))
          have HBW := Lib.hid (show Below w.heap.size w ((w.alloc (.cells #[.int .u64 P, .int .u64 Q, .int .u64 G] 24)).alloc (.cells #[.int .u64 a, .int .u64 b] 26)) from ((Below.refl _ _).alloc (by simp <;> omega) _).alloc (by simp <;> omega) _)
          go_enter Try.func10, Try.ntmps10
          obtain ⟨x0a, x0b, x0c, -⟩ := id F_g.out
          obtain ⟨x1a, x1b, x1c, x1d, -⟩ := id F_c.out
          go_wp2_with fail
          clear x0a x0b x0c x1a x1b x1c x1d
          refine (alive_yes _).mono ?_
          rintro e w1 ⟨rfl, hb1⟩
          replace F_g := Lib.hid (F_g.out.keep hb1)
          replace F_c := Lib.hid (F_c.out.keep hb1)
          replace HBW := Lib.hid (HBW.out.trans (hb1.mono HBW.out.size))
          clear hb1
          obtain ⟨x0a, x0b, x0c, -⟩ := id F_g.out
          obtain ⟨x1a, x1b, x1c, x1d, -⟩ := id F_c.out
          go_wp2_with fail
          clear x0a x0b x0c x1a x1b x1c x1d
          refine (evalid_gen _ hP hQ hG ha hb HC.out).mono ?_
          rintro e w2 ⟨rfl, hb2⟩
          replace F_g := Lib.hid (F_g.out.keep hb2)
          replace F_c := Lib.hid (F_c.out.keep hb2)
          replace HBW := Lib.hid (HBW.out.trans (hb2.mono HBW.out.size))
          clear hb2
          obtain ⟨x0a, x0b, x0c, -⟩ := id F_g.out
          obtain ⟨x1a, x1b, x1c, x1d, -⟩ := id F_c.out
          go_wp2_with fail
          clear x0a x0b x0c x1a x1b x1c x1d
          refine (gcheck_any P Q G 0 _ hP hQ hG HV.out).mono ?_
          rintro e w3 ⟨rfl, hb3⟩
          replace F_g := Lib.hid (F_g.out.keep hb3)
          replace F_c := Lib.hid (F_c.out.keep hb3)
          replace HBW := Lib.hid (HBW.out.trans (hb3.mono HBW.out.size))
          clear hb3
          obtain ⟨x0a, x0b, x0c, -⟩ := id F_g.out
          obtain ⟨x1a, x1b, x1c, x1d, -⟩ := id F_c.out
          go_wp2_with fail
          go_ret
          exact ⟨rfl, HBW.out⟩
        case pos =>
          have xQ := hxQ
          clear hxQ
          by_cases hrQ : r < Q
          case neg =>
            subst hr_
            have HC := Lib.hid hC
            clear hC
            have hrQ_ : Q ≤ r := by omega
            clear hrQ
            have F_g := Lib.hid (show Boxed ((w.alloc (.cells #[.int .u64 P, .int .u64 Q, .int .u64 G] 24)).alloc (.cells #[.int .u64 a, .int .u64 b] 26)) (w.heap.size) P Q G from (Boxed.at _ P Q G _ (w.heap.size) (by simp)).alloc _)
            have F_c := Lib.hid (show Pair ((w.alloc (.cells #[.int .u64 P, .int .u64 Q, .int .u64 G] 24)).alloc (.cells #[.int .u64 a, .int .u64 b] 26)) (w.heap.size + 1) a b from Pair.at _ a b _ (w.heap.size + 1) (by simp))
            have HBW := Lib.hid (show Below w.heap.size w ((w.alloc (.cells #[.int .u64 P, .int .u64 Q, .int .u64 G] 24)).alloc (.cells #[.int .u64 a, .int .u64 b] 26)) from ((Below.refl _ _).alloc (by simp <;> omega) _).alloc (by simp <;> omega) _)
            go_enter Try.func10, Try.ntmps10
            obtain ⟨x0a, x0b, x0c, -⟩ := id F_g.out
            obtain ⟨x1a, x1b, x1c, x1d, -⟩ := id F_c.out
            go_wp2_with fail
            clear x0a x0b x0c x1a x1b x1c x1d
            refine (alive_yes _).mono ?_
            rintro e w1 ⟨rfl, hb1⟩
            replace F_g := Lib.hid (F_g.out.keep hb1)
            replace F_c := Lib.hid (F_c.out.keep hb1)
            replace HBW := Lib.hid (HBW.out.trans (hb1.mono HBW.out.size))
            clear hb1
            obtain ⟨x0a, x0b, x0c, -⟩ := id F_g.out
            obtain ⟨x1a, x1b, x1c, x1d, -⟩ := id F_c.out
            go_wp2_with fail
            clear x0a x0b x0c x1a x1b x1c x1d
            refine (evalid_gen _ hP hQ hG ha hb HC.out).mono ?_
            rintro e w2 ⟨rfl, hb2⟩
            replace F_g := Lib.hid (F_g.out.keep hb2)
            replace F_c := Lib.hid (F_c.out.keep hb2)
            replace HBW := Lib.hid (HBW.out.trans (hb2.mono HBW.out.size))
            clear hb2
            obtain ⟨x0a, x0b, x0c, -⟩ := id F_g.out
            obtain ⟨x1a, x1b, x1c, x1d, -⟩ := id F_c.out
            go_wp2_with fail
            clear x0a x0b x0c x1a x1b x1c x1d
            refine (gcheck_any P Q G 0 _ hP hQ hG HV.out).mono ?_
            rintro e w3 ⟨rfl, hb3⟩
            replace F_g := Lib.hid (F_g.out.keep hb3)
            replace F_c := Lib.hid (F_c.out.keep hb3)
            replace HBW := Lib.hid (HBW.out.trans (hb3.mono HBW.out.size))
            clear hb3
            obtain ⟨x0a, x0b, x0c, -⟩ := id F_g.out
            obtain ⟨x1a, x1b, x1c, x1d, -⟩ := id F_c.out
            go_wp2_with fail
            go_ret
            exact ⟨rfl, HBW.out⟩
          case pos =>
            have rQ := hrQ
            clear hrQ
            by_cases ht0 : 0 ≤ most
            case neg =>
              subst hr_
              have HC := Lib.hid hC
              clear hC
              have ht0_ : most < 0 := by omega
              clear ht0
              have F_g := Lib.hid (show Boxed ((w.alloc (.cells #[.int .u64 P, .int .u64 Q, .int .u64 G] 24)).alloc (.cells #[.int .u64 a, .int .u64 b] 26)) (w.heap.size) P Q G from (Boxed.at _ P Q G _ (w.heap.size) (by simp)).alloc _)
              have F_c := Lib.hid (show Pair ((w.alloc (.cells #[.int .u64 P, .int .u64 Q, .int .u64 G] 24)).alloc (.cells #[.int .u64 a, .int .u64 b] 26)) (w.heap.size + 1) a b from Pair.at _ a b _ (w.heap.size + 1) (by simp))
              have HBW := Lib.hid (show Below w.heap.size w ((w.alloc (.cells #[.int .u64 P, .int .u64 Q, .int .u64 G] 24)).alloc (.cells #[.int .u64 a, .int .u64 b] 26)) from ((Below.refl _ _).alloc (by simp <;> omega) _).alloc (by simp <;> omega) _)
              go_enter Try.func10, Try.ntmps10
              obtain ⟨x0a, x0b, x0c, -⟩ := id F_g.out
              obtain ⟨x1a, x1b, x1c, x1d, -⟩ := id F_c.out
              go_wp2_with fail
              clear x0a x0b x0c x1a x1b x1c x1d
              refine (alive_yes _).mono ?_
              rintro e w1 ⟨rfl, hb1⟩
              replace F_g := Lib.hid (F_g.out.keep hb1)
              replace F_c := Lib.hid (F_c.out.keep hb1)
              replace HBW := Lib.hid (HBW.out.trans (hb1.mono HBW.out.size))
              clear hb1
              obtain ⟨x0a, x0b, x0c, -⟩ := id F_g.out
              obtain ⟨x1a, x1b, x1c, x1d, -⟩ := id F_c.out
              go_wp2_with fail
              clear x0a x0b x0c x1a x1b x1c x1d
              refine (evalid_gen _ hP hQ hG ha hb HC.out).mono ?_
              rintro e w2 ⟨rfl, hb2⟩
              replace F_g := Lib.hid (F_g.out.keep hb2)
              replace F_c := Lib.hid (F_c.out.keep hb2)
              replace HBW := Lib.hid (HBW.out.trans (hb2.mono HBW.out.size))
              clear hb2
              obtain ⟨x0a, x0b, x0c, -⟩ := id F_g.out
              obtain ⟨x1a, x1b, x1c, x1d, -⟩ := id F_c.out
              go_wp2_with fail
              clear x0a x0b x0c x1a x1b x1c x1d
              refine (gcheck_any P Q G 0 _ hP hQ hG HV.out).mono ?_
              rintro e w3 ⟨rfl, hb3⟩
              replace F_g := Lib.hid (F_g.out.keep hb3)
              replace F_c := Lib.hid (F_c.out.keep hb3)
              replace HBW := Lib.hid (HBW.out.trans (hb3.mono HBW.out.size))
              clear hb3
              obtain ⟨x0a, x0b, x0c, -⟩ := id F_g.out
              obtain ⟨x1a, x1b, x1c, x1d, -⟩ := id F_c.out
              go_wp2_with fail
              go_ret
              exact ⟨rfl, HBW.out⟩
            case pos =>
              have t0 := ht0
              clear ht0
              by_cases ht1 : most ≤ 200
              case neg =>
                subst hr_
                have HC := Lib.hid hC
                clear hC
                have ht1_ : 200 < most := by omega
                clear ht1
                have F_g := Lib.hid (show Boxed ((w.alloc (.cells #[.int .u64 P, .int .u64 Q, .int .u64 G] 24)).alloc (.cells #[.int .u64 a, .int .u64 b] 26)) (w.heap.size) P Q G from (Boxed.at _ P Q G _ (w.heap.size) (by simp)).alloc _)
                have F_c := Lib.hid (show Pair ((w.alloc (.cells #[.int .u64 P, .int .u64 Q, .int .u64 G] 24)).alloc (.cells #[.int .u64 a, .int .u64 b] 26)) (w.heap.size + 1) a b from Pair.at _ a b _ (w.heap.size + 1) (by simp))
                have HBW := Lib.hid (show Below w.heap.size w ((w.alloc (.cells #[.int .u64 P, .int .u64 Q, .int .u64 G] 24)).alloc (.cells #[.int .u64 a, .int .u64 b] 26)) from ((Below.refl _ _).alloc (by simp <;> omega) _).alloc (by simp <;> omega) _)
                go_enter Try.func10, Try.ntmps10
                obtain ⟨x0a, x0b, x0c, -⟩ := id F_g.out
                obtain ⟨x1a, x1b, x1c, x1d, -⟩ := id F_c.out
                go_wp2_with fail
                clear x0a x0b x0c x1a x1b x1c x1d
                refine (alive_yes _).mono ?_
                rintro e w1 ⟨rfl, hb1⟩
                replace F_g := Lib.hid (F_g.out.keep hb1)
                replace F_c := Lib.hid (F_c.out.keep hb1)
                replace HBW := Lib.hid (HBW.out.trans (hb1.mono HBW.out.size))
                clear hb1
                obtain ⟨x0a, x0b, x0c, -⟩ := id F_g.out
                obtain ⟨x1a, x1b, x1c, x1d, -⟩ := id F_c.out
                go_wp2_with fail
                clear x0a x0b x0c x1a x1b x1c x1d
                refine (evalid_gen _ hP hQ hG ha hb HC.out).mono ?_
                rintro e w2 ⟨rfl, hb2⟩
                replace F_g := Lib.hid (F_g.out.keep hb2)
                replace F_c := Lib.hid (F_c.out.keep hb2)
                replace HBW := Lib.hid (HBW.out.trans (hb2.mono HBW.out.size))
                clear hb2
                obtain ⟨x0a, x0b, x0c, -⟩ := id F_g.out
                obtain ⟨x1a, x1b, x1c, x1d, -⟩ := id F_c.out
                go_wp2_with fail
                clear x0a x0b x0c x1a x1b x1c x1d
                refine (gcheck_any P Q G 0 _ hP hQ hG HV.out).mono ?_
                rintro e w3 ⟨rfl, hb3⟩
                replace F_g := Lib.hid (F_g.out.keep hb3)
                replace F_c := Lib.hid (F_c.out.keep hb3)
                replace HBW := Lib.hid (HBW.out.trans (hb3.mono HBW.out.size))
                clear hb3
                obtain ⟨x0a, x0b, x0c, -⟩ := id F_g.out
                obtain ⟨x1a, x1b, x1c, x1d, -⟩ := id F_c.out
                go_wp2_with fail
                go_ret
                exact ⟨rfl, HBW.out⟩
              case pos =>
                have t1 := ht1
                clear ht1
                subst hr_
                obtain ⟨hz, ma, mb⟩ : askS P Q G [] [a, b] = 0 ∧ Mem P Q a ∧ Mem P Q b := by
                  rcases hC with ⟨h1, h2, -⟩ | ⟨h1, h2, -⟩
                  · exact ⟨h1, h2.1 rfl⟩
                  · cases h2
                have HC := Lib.hid hC
                clear hC hz
                have t1' : most ≤ 4096 := by omega
                have UX := Lib.hid (show U64 x from ux)
                obtain ⟨y, hy⟩ : ∃ y, powm G x P = y := ⟨_, rfl⟩
                have my : Mem P Q y := by rw [← hy]; exact HG.out.mem_pow HG.out.mem_g x
                obtain ⟨c, hc⟩ : ∃ c, a * powm G r P % P = c := ⟨_, rfl⟩
                have mc : Mem P Q c := by rw [← hc]; exact HG.out.mem_mul ma (HG.out.mem_pow HG.out.mem_g r)
                obtain ⟨d, hd⟩ : ∃ d, b * (powm G 0 P * powm y r P % P) % P = d := ⟨_, rfl⟩
                have md : Mem P Q d := by rw [← hd]; exact HG.out.mem_mul mb (HG.out.mem_mul (HG.out.mem_pow HG.out.mem_g 0) (HG.out.mem_pow my r))
                obtain ⟨v, v0, vP, hv⟩ := strip_of (x := x) HG.out ma hb mb.2.1
                have hw : v * powm c x P % P = d := by rw [← hc, ← hd, ← hy]; exact refresh_of HG.out hx hr hv
                obtain ⟨n, e, hl⟩ := LogS.exists P G v most
                have hy0 : 0 ≤ y := Int.le_of_lt my.1
                have hc0 : 0 ≤ c := Int.le_of_lt mc.1
                have hd0 : 0 ≤ d := Int.le_of_lt md.1
                have HY := Lib.hid hy
                have HR := Lib.hid (show RefS P Q G y a b r c d 0 from .inl ⟨askS_ok HH.out (by simpa using rQ) (by simpa using ⟨my.2.1, ma.2.1, mb.2.1⟩), hc, hd, rfl⟩)
                have HD := Lib.hid (show ValS P Q G c d true 0 from .inl ⟨askS_ok HH.out (by simp) (by simpa using ⟨mc.2.1, md.2.1⟩), by simp [mc, md], rfl⟩)
                have HM := Lib.hid (decS_of HG.out HH.out hx xQ ma mb.2.1 t0 t1' v0 vP hv hl)
                have HN := Lib.hid (decS_of HG.out HH.out hx xQ mc md.2.1 t0 t1' v0 vP hw hl)
                clear hy hc hd hv hw hl my mc md ma mb v0 vP t1'
                have F_g := Lib.hid (show Boxed ((w.alloc (.cells #[.int .u64 P, .int .u64 Q, .int .u64 G] 24)).alloc (.cells #[.int .u64 a, .int .u64 b] 26)) (w.heap.size) P Q G from (Boxed.at _ P Q G _ (w.heap.size) (by simp)).alloc _)
                have F_c := Lib.hid (show Pair ((w.alloc (.cells #[.int .u64 P, .int .u64 Q, .int .u64 G] 24)).alloc (.cells #[.int .u64 a, .int .u64 b] 26)) (w.heap.size + 1) a b from Pair.at _ a b _ (w.heap.size + 1) (by simp))
                have HBW := Lib.hid (show Below w.heap.size w ((w.alloc (.cells #[.int .u64 P, .int .u64 Q, .int .u64 G] 24)).alloc (.cells #[.int .u64 a, .int .u64 b] 26)) from ((Below.refl _ _).alloc (by simp <;> omega) _).alloc (by simp <;> omega) _)
                go_enter Try.func10, Try.ntmps10
                obtain ⟨x0a, x0b, x0c, -⟩ := id F_g.out
                obtain ⟨x1a, x1b, x1c, x1d, -⟩ := id F_c.out
                go_wp2_with fail
                clear x0a x0b x0c x1a x1b x1c x1d
                refine (alive_yes _).mono ?_
                rintro e w1 ⟨rfl, hb1⟩
                replace F_g := Lib.hid (F_g.out.keep hb1)
                replace F_c := Lib.hid (F_c.out.keep hb1)
                replace HBW := Lib.hid (HBW.out.trans (hb1.mono HBW.out.size))
                clear hb1
                obtain ⟨x0a, x0b, x0c, -⟩ := id F_g.out
                obtain ⟨x1a, x1b, x1c, x1d, -⟩ := id F_c.out
                go_wp2_with fail
                clear x0a x0b x0c x1a x1b x1c x1d
                refine (evalid_gen _ hP hQ hG ha hb HC.out).mono ?_
                rintro e w2 ⟨rfl, hb2⟩
                replace F_g := Lib.hid (F_g.out.keep hb2)
                replace F_c := Lib.hid (F_c.out.keep hb2)
                replace HBW := Lib.hid (HBW.out.trans (hb2.mono HBW.out.size))
                clear hb2
                obtain ⟨x0a, x0b, x0c, -⟩ := id F_g.out
                obtain ⟨x1a, x1b, x1c, x1d, -⟩ := id F_c.out
                go_wp2_with fail
                clear x0a x0b x0c x1a x1b x1c x1d
                refine (gcheck_any P Q G 0 _ hP hQ hG HV.out).mono ?_
                rintro e w3 ⟨rfl, hb3⟩
                replace F_g := Lib.hid (F_g.out.keep hb3)
                replace F_c := Lib.hid (F_c.out.keep hb3)
                replace HBW := Lib.hid (HBW.out.trans (hb3.mono HBW.out.size))
                clear hb3
                obtain ⟨x0a, x0b, x0c, -⟩ := id F_g.out
                obtain ⟨x1a, x1b, x1c, x1d, -⟩ := id F_c.out
                go_wp2_with fail
                clear x0a x0b x0c x1a x1b x1c x1d
                refine (pow_ok P Q G G x y _ HH.out hG gP UX.out HY.out).mono ?_
                rintro e w4 ⟨rfl, hb4⟩
                replace F_g := Lib.hid (F_g.out.keep hb4)
                replace F_c := Lib.hid (F_c.out.keep hb4)
                replace HBW := Lib.hid (HBW.out.trans (hb4.mono HBW.out.size))
                clear hb4
                obtain ⟨x0a, x0b, x0c, -⟩ := id F_g.out
                obtain ⟨x1a, x1b, x1c, x1d, -⟩ := id F_c.out
                go_wp2_with fail
                clear x0a x0b x0c x1a x1b x1c x1d
                refine (erefresh_gen _ hP hQ hG hy0 ha hb hr HR.out).mono ?_
                rintro e w5 ⟨rfl, hb5⟩
                replace F_g := Lib.hid (F_g.out.keep hb5)
                replace F_c := Lib.hid (F_c.out.keep hb5)
                replace HBW := Lib.hid (HBW.out.trans (hb5.mono HBW.out.size))
                clear hb5
                replace F_g := Lib.hid (F_g.out.alloc (.cells #[.int .u64 c, .int .u64 d] 26))
                replace F_c := Lib.hid (F_c.out.alloc (.cells #[.int .u64 c, .int .u64 d] 26))
                have F_d := Lib.hid (Pair.new w5 c d 26)
                replace HBW := Lib.hid (HBW.out.alloc HBW.out.size (.cells #[.int .u64 c, .int .u64 d] 26))
                obtain ⟨x0a, x0b, x0c, -⟩ := id F_g.out
                obtain ⟨x1a, x1b, x1c, x1d, -⟩ := id F_c.out
                obtain ⟨x2a, x2b, x2c, x2d, -⟩ := id F_d.out
                go_wp2_with fail
                clear x0a x0b x0c x1a x1b x1c x1d x2a x2b x2c x2d
                refine (edecrypt_gen _ hP hQ hG hx ha hb HM.out).mono ?_
                rintro e w6 ⟨rfl, hb6⟩
                replace F_g := Lib.hid (F_g.out.keep hb6)
                replace F_c := Lib.hid (F_c.out.keep hb6)
                replace F_d := Lib.hid (F_d.out.keep hb6)
                replace HBW := Lib.hid (HBW.out.trans (hb6.mono HBW.out.size))
                clear hb6
                obtain ⟨x0a, x0b, x0c, -⟩ := id F_g.out
                obtain ⟨x1a, x1b, x1c, x1d, -⟩ := id F_c.out
                obtain ⟨x2a, x2b, x2c, x2d, -⟩ := id F_d.out
                go_wp2_with fail
                clear x0a x0b x0c x1a x1b x1c x1d x2a x2b x2c x2d
                refine (edecrypt_gen _ hP hQ hG hx hc0 hd0 HN.out).mono ?_
                rintro e w7 ⟨rfl, hb7⟩
                replace F_g := Lib.hid (F_g.out.keep hb7)
                replace F_c := Lib.hid (F_c.out.keep hb7)
                replace F_d := Lib.hid (F_d.out.keep hb7)
                replace HBW := Lib.hid (HBW.out.trans (hb7.mono HBW.out.size))
                clear hb7
                obtain ⟨x0a, x0b, x0c, -⟩ := id F_g.out
                obtain ⟨x1a, x1b, x1c, x1d, -⟩ := id F_c.out
                obtain ⟨x2a, x2b, x2c, x2d, -⟩ := id F_d.out
                go_wp2_with fail
                clear x0a x0b x0c x1a x1b x1c x1d x2a x2b x2c x2d
                refine (evalid_gen _ hP hQ hG hc0 hd0 HD.out).mono ?_
                rintro e w8 ⟨rfl, hb8⟩
                replace F_g := Lib.hid (F_g.out.keep hb8)
                replace F_c := Lib.hid (F_c.out.keep hb8)
                replace F_d := Lib.hid (F_d.out.keep hb8)
                replace HBW := Lib.hid (HBW.out.trans (hb8.mono HBW.out.size))
                clear hb8
                obtain ⟨x0a, x0b, x0c, -⟩ := id F_g.out
                obtain ⟨x1a, x1b, x1c, x1d, -⟩ := id F_c.out
                obtain ⟨x2a, x2b, x2c, x2d, -⟩ := id F_d.out
                go_wp2_with fail
                go_ret
                exact ⟨rfl, HBW.out⟩


set_option maxRecDepth 100000 in
theorem lifted (os : Os) (started : os.Started) (H : Type) (enc : TypeId × Value → H) :
    ReturnsInHanded {} Try.checked os 10 .any (Rows.elgamalRefreshesSpec.pre6 enc Try.prog Try.f10 Rows.elgamalRefreshesRow.domain false) (Rows.elgamalRefreshesSpec.post enc Try.prog Try.f10 false true false false) := by
  refine returnsInHanded_of_change (C := Try.checked) own started (by kernel_rfl) Try.func10
    (ChangeSpec.witness6 (enc := enc) (C := Try.checked) false ⟨#[], #[.agg #[.int .u64 0, .int .u64 0, .int .u64 0], .int .u64 0, .agg #[.int .u64 0, .int .u64 0], .int .u64 0, .int .i64 0], []⟩ 8 (by kernel_rfl) (by kernel_rfl) (by kernel_rfl) (by kernel_rfl)) ?_
  intro W base args ds gs before hval0 hW _ _
  have hval : ∀ (j : Nat) t v, Try.f10.params[j]? = some t → args[j]? = some v → Value.okWide Try.prog W .any base t v := hval0
  have hW' := hW
  obtain ⟨p, q, hA0, hV, rfl, hfz, hnd⟩ := hW
  have hA : DataW.TrodAll enc Try.prog W 0 (fun _ => true) true Try.f10.params.toList args.toList ds p := hA0
  rw [Try.params10] at hA hval
  have hK := hA
  obtain ⟨v0, vs0, d0, ds0, p0, q0, hargs, rfl, rfl, h0, r0⟩ := trodAll_cons hA
  obtain ⟨v1, vs1, d1, ds1, p1, q1, rfl, rfl, rfl, h1, r1⟩ := trodAll_cons r0
  obtain ⟨v2, vs2, d2, ds2, p2, q2, rfl, rfl, rfl, h2, r2⟩ := trodAll_cons r1
  obtain ⟨v3, vs3, d3, ds3, p3, q3, rfl, rfl, rfl, h3, r3⟩ := trodAll_cons r2
  obtain ⟨v4, vs4, d4, ds4, p4, q4, rfl, rfl, rfl, h4, r4⟩ := trodAll_cons r3
  obtain ⟨rfl, rfl, rfl⟩ := trodAll_nil r4
  obtain rfl : args = #[v0, v1, v2, v3, v4] := by cases args; simp_all
  obtain ⟨rfl, rfl⟩ := trodVars_none hV
  obtain ⟨P, Q, G, rfl, uP, uQ, uG⟩ := open_group (hval 0 24 v0 rfl rfl) h0
  obtain ⟨x, rfl, ux⟩ := open_u64 (hval 1 22 v1 rfl rfl) h1
  obtain ⟨a, b, rfl, ua, ub⟩ := open_sealed (hval 2 26 v2 rfl rfl) h2
  obtain ⟨r, rfl, ur⟩ := open_u64 (hval 3 22 v3 rfl rfl) h3
  obtain ⟨most, rfl, ut⟩ := open_i64 (hval 4 3 v4 rfl rfl) h4
  clear hA0 hval0
  refine (walk P Q G x a b r most W uP uQ uG ux ua ub ur ut).mono fun e W' ⟨he, bel⟩ => ?_
  subst he
  exact ⟨_, rfl, _, _, _, [], _, [], hW', trodAll_mk1 (shut_bool Try.underlying4 _), trodAll_stays laidOut (by kernel_rfl) hK bel, rfl, bel.frame _, fun h => by cases h⟩

theorem over : Rows.elgamalRefreshesRow.holds Try.pinned (OpenSpec.ofChange Rows.elgamalRefreshesSpec) :=
  OpenClaim.holds_of_wide 10 Try.f10 rfl rfl rfl rfl rfl rfl rfl ⟨rfl, rfl, rfl, rfl, rfl⟩ rfl rfl rfl rfl rfl (by kernel_rfl) Try.func10 (by kernel_rfl)
    (of_decide_eq_true (by kernel_rfl)) (by unfold Func.isWrapper; first | (rw [if_pos (by decide +kernel)]; kernel_rfl) | (rw [if_neg (by decide +kernel)]; exact ⟨rfl, rfl⟩))
    (fun os started H enc _ => lifted os started H enc)

theorem proved : Rows.ElgamalRefreshesSaid := over
#print axioms proved
end Go.Proofs.Ytffefhldfnfohaa.lawRefreshes
