/- ElgamalDecrypts: the statement: for every input the law returns true, and the arguments read as before. -/
import Derived.Test.YtffefhldfnfohaaAux32
import Derived.Test.YtffefhldfnfohaaLaw32
import Derived.Test.YtffefhldfnfohaaOpenS
import Derived.Test.YtffefhldfnfohaaRows
namespace Go.Proofs.Ytffefhldfnfohaa.lawDecrypts
open Go.ChangeShapes Go.WideShapes Go.ChangeAt Go.RowKit Num
set_option linter.unusedSimpArgs false
set_option linter.unusedVariables false

set_option maxRecDepth 100000 in
set_option maxHeartbeats 12800000 in
theorem walk (P Q G x m r most : Int) (w : World) (uP : U64 P) (uQ : U64 Q) (uG : U64 G) (ux : U64 x) (um : 0 ≤ m ∧ m < 65536) (ur : U64 r) (ut : -9223372036854775808 ≤ most ∧ most ≤ 9223372036854775807) :
    Calls Try.prog 7 #[.agg #[.int .u64 P, .int .u64 Q, .int .u64 G], .int .u64 x, .int .u16 m, .int .u64 r, .int .i64 most] w fun e w' => e = .returned (.bool true) ∧ Below w.heap.size w w' := by
  obtain ⟨m0, m65⟩ := um
  obtain ⟨tl, tu⟩ := ut
  have hP := uP.1
  have hQ := uQ.1
  have hG := uG.1
  have hx := ux.1
  have hr := ur.1
  by_cases hv : Valid P Q G
  case neg =>
    have HV := Lib.hid (show ValidS P Q G 300 from .inr ⟨hv, rfl⟩)
    clear hv
    have F_g := Lib.hid (show Boxed (w.alloc (.cells #[.int .u64 P, .int .u64 Q, .int .u64 G] 24)) (w.heap.size) P Q G from Boxed.at _ P Q G _ (w.heap.size) (by simp))
    have HBW := Lib.hid (show Below w.heap.size w (w.alloc (.cells #[.int .u64 P, .int .u64 Q, .int .u64 G] 24)) from (Below.refl _ _).alloc (by simp <;> omega) _)
    go_enter Try.func7, Try.ntmps7
    obtain ⟨x0a, x0b, x0c, -⟩ := id F_g.out
    go_wp2_with fail
    clear x0a x0b x0c
    refine (alive_yes _).mono ?_
    rintro e w1 ⟨rfl, hb1⟩
    replace F_g := Lib.hid (F_g.out.keep hb1)
    replace HBW := Lib.hid (HBW.out.trans (hb1.mono HBW.out.size))
    clear hb1
    obtain ⟨x0a, x0b, x0c, -⟩ := id F_g.out
    go_wp2_with fail
    clear x0a x0b x0c
    refine (gcheck_any P Q G 300 _ hP hQ hG HV.out).mono ?_
    rintro e w2 ⟨rfl, hb2⟩
    replace F_g := Lib.hid (F_g.out.keep hb2)
    replace HBW := Lib.hid (HBW.out.trans (hb2.mono HBW.out.size))
    clear hb2
    obtain ⟨x0a, x0b, x0c, -⟩ := id F_g.out
    go_wp2_with fail
    go_ret
    exact ⟨rfl, HBW.out⟩
  case pos =>
    have HV := Lib.hid (show ValidS P Q G 0 from .inl ⟨hv, rfl⟩)
    have HG := Lib.hid hv.grp
    have HH := Lib.hid hv.has
    obtain ⟨p5, p3, _, pq, g2, gP⟩ := id hv.1
    have q3 : Q < 1073741824 := by omega
    clear hv pq p3
    by_cases hxQ : x < Q
    case neg =>
      have hxQ_ : Q ≤ x := by omega
      clear hxQ
      have F_g := Lib.hid (show Boxed (w.alloc (.cells #[.int .u64 P, .int .u64 Q, .int .u64 G] 24)) (w.heap.size) P Q G from Boxed.at _ P Q G _ (w.heap.size) (by simp))
      have HBW := Lib.hid (show Below w.heap.size w (w.alloc (.cells #[.int .u64 P, .int .u64 Q, .int .u64 G] 24)) from (Below.refl _ _).alloc (by simp <;> omega) _)
      go_enter Try.func7, Try.ntmps7
      obtain ⟨x0a, x0b, x0c, -⟩ := id F_g.out
      go_wp2_with fail
      clear x0a x0b x0c
      refine (alive_yes _).mono ?_
      rintro e w1 ⟨rfl, hb1⟩
      replace F_g := Lib.hid (F_g.out.keep hb1)
      replace HBW := Lib.hid (HBW.out.trans (hb1.mono HBW.out.size))
      clear hb1
      obtain ⟨x0a, x0b, x0c, -⟩ := id F_g.out
      go_wp2_with fail
      clear x0a x0b x0c
      refine (gcheck_any P Q G 0 _ hP hQ hG HV.out).mono ?_
      rintro e w2 ⟨rfl, hb2⟩
      replace F_g := Lib.hid (F_g.out.keep hb2)
      replace HBW := Lib.hid (HBW.out.trans (hb2.mono HBW.out.size))
      clear hb2
      obtain ⟨x0a, x0b, x0c, -⟩ := id F_g.out
      go_wp2_with fail
      go_ret
      exact ⟨rfl, HBW.out⟩
    case pos =>
      have xQ := hxQ
      clear hxQ
      by_cases hmQ : m < Q
      case neg =>
        have hmQ_ : Q ≤ m := by omega
        clear hmQ
        have F_g := Lib.hid (show Boxed (w.alloc (.cells #[.int .u64 P, .int .u64 Q, .int .u64 G] 24)) (w.heap.size) P Q G from Boxed.at _ P Q G _ (w.heap.size) (by simp))
        have HBW := Lib.hid (show Below w.heap.size w (w.alloc (.cells #[.int .u64 P, .int .u64 Q, .int .u64 G] 24)) from (Below.refl _ _).alloc (by simp <;> omega) _)
        go_enter Try.func7, Try.ntmps7
        obtain ⟨x0a, x0b, x0c, -⟩ := id F_g.out
        go_wp2_with fail
        clear x0a x0b x0c
        refine (alive_yes _).mono ?_
        rintro e w1 ⟨rfl, hb1⟩
        replace F_g := Lib.hid (F_g.out.keep hb1)
        replace HBW := Lib.hid (HBW.out.trans (hb1.mono HBW.out.size))
        clear hb1
        obtain ⟨x0a, x0b, x0c, -⟩ := id F_g.out
        go_wp2_with fail
        clear x0a x0b x0c
        refine (gcheck_any P Q G 0 _ hP hQ hG HV.out).mono ?_
        rintro e w2 ⟨rfl, hb2⟩
        replace F_g := Lib.hid (F_g.out.keep hb2)
        replace HBW := Lib.hid (HBW.out.trans (hb2.mono HBW.out.size))
        clear hb2
        obtain ⟨x0a, x0b, x0c, -⟩ := id F_g.out
        go_wp2_with fail
        go_ret
        exact ⟨rfl, HBW.out⟩
      case pos =>
        have mQ := hmQ
        clear hmQ
        by_cases hrQ : r < Q
        case neg =>
          have hrQ_ : Q ≤ r := by omega
          clear hrQ
          have F_g := Lib.hid (show Boxed (w.alloc (.cells #[.int .u64 P, .int .u64 Q, .int .u64 G] 24)) (w.heap.size) P Q G from Boxed.at _ P Q G _ (w.heap.size) (by simp))
          have HBW := Lib.hid (show Below w.heap.size w (w.alloc (.cells #[.int .u64 P, .int .u64 Q, .int .u64 G] 24)) from (Below.refl _ _).alloc (by simp <;> omega) _)
          go_enter Try.func7, Try.ntmps7
          obtain ⟨x0a, x0b, x0c, -⟩ := id F_g.out
          go_wp2_with fail
          clear x0a x0b x0c
          refine (alive_yes _).mono ?_
          rintro e w1 ⟨rfl, hb1⟩
          replace F_g := Lib.hid (F_g.out.keep hb1)
          replace HBW := Lib.hid (HBW.out.trans (hb1.mono HBW.out.size))
          clear hb1
          obtain ⟨x0a, x0b, x0c, -⟩ := id F_g.out
          go_wp2_with fail
          clear x0a x0b x0c
          refine (gcheck_any P Q G 0 _ hP hQ hG HV.out).mono ?_
          rintro e w2 ⟨rfl, hb2⟩
          replace F_g := Lib.hid (F_g.out.keep hb2)
          replace HBW := Lib.hid (HBW.out.trans (hb2.mono HBW.out.size))
          clear hb2
          obtain ⟨x0a, x0b, x0c, -⟩ := id F_g.out
          go_wp2_with fail
          go_ret
          exact ⟨rfl, HBW.out⟩
        case pos =>
          have rQ := hrQ
          clear hrQ
          by_cases ht0 : 0 ≤ most
          case neg =>
            have ht0_ : most < 0 := by omega
            clear ht0
            have F_g := Lib.hid (show Boxed (w.alloc (.cells #[.int .u64 P, .int .u64 Q, .int .u64 G] 24)) (w.heap.size) P Q G from Boxed.at _ P Q G _ (w.heap.size) (by simp))
            have HBW := Lib.hid (show Below w.heap.size w (w.alloc (.cells #[.int .u64 P, .int .u64 Q, .int .u64 G] 24)) from (Below.refl _ _).alloc (by simp <;> omega) _)
            go_enter Try.func7, Try.ntmps7
            obtain ⟨x0a, x0b, x0c, -⟩ := id F_g.out
            go_wp2_with fail
            clear x0a x0b x0c
            refine (alive_yes _).mono ?_
            rintro e w1 ⟨rfl, hb1⟩
            replace F_g := Lib.hid (F_g.out.keep hb1)
            replace HBW := Lib.hid (HBW.out.trans (hb1.mono HBW.out.size))
            clear hb1
            obtain ⟨x0a, x0b, x0c, -⟩ := id F_g.out
            go_wp2_with fail
            clear x0a x0b x0c
            refine (gcheck_any P Q G 0 _ hP hQ hG HV.out).mono ?_
            rintro e w2 ⟨rfl, hb2⟩
            replace F_g := Lib.hid (F_g.out.keep hb2)
            replace HBW := Lib.hid (HBW.out.trans (hb2.mono HBW.out.size))
            clear hb2
            obtain ⟨x0a, x0b, x0c, -⟩ := id F_g.out
            go_wp2_with fail
            go_ret
            exact ⟨rfl, HBW.out⟩
          case pos =>
            have t0 := ht0
            clear ht0
            by_cases ht1 : most ≤ 4096
            case neg =>
              have ht1_ : 4096 < most := by omega
              clear ht1
              have F_g := Lib.hid (show Boxed (w.alloc (.cells #[.int .u64 P, .int .u64 Q, .int .u64 G] 24)) (w.heap.size) P Q G from Boxed.at _ P Q G _ (w.heap.size) (by simp))
              have HBW := Lib.hid (show Below w.heap.size w (w.alloc (.cells #[.int .u64 P, .int .u64 Q, .int .u64 G] 24)) from (Below.refl _ _).alloc (by simp <;> omega) _)
              go_enter Try.func7, Try.ntmps7
              obtain ⟨x0a, x0b, x0c, -⟩ := id F_g.out
              go_wp2_with fail
              clear x0a x0b x0c
              refine (alive_yes _).mono ?_
              rintro e w1 ⟨rfl, hb1⟩
              replace F_g := Lib.hid (F_g.out.keep hb1)
              replace HBW := Lib.hid (HBW.out.trans (hb1.mono HBW.out.size))
              clear hb1
              obtain ⟨x0a, x0b, x0c, -⟩ := id F_g.out
              go_wp2_with fail
              clear x0a x0b x0c
              refine (gcheck_any P Q G 0 _ hP hQ hG HV.out).mono ?_
              rintro e w2 ⟨rfl, hb2⟩
              replace F_g := Lib.hid (F_g.out.keep hb2)
              replace HBW := Lib.hid (HBW.out.trans (hb2.mono HBW.out.size))
              clear hb2
              obtain ⟨x0a, x0b, x0c, -⟩ := id F_g.out
              go_wp2_with fail
              go_ret
              exact ⟨rfl, HBW.out⟩
            case pos =>
              have t1 := ht1
              clear ht1
              have UX := Lib.hid (show U64 x from ux)
              obtain ⟨y, hy⟩ : ∃ y, powm G x P = y := ⟨_, rfl⟩
              have my : Mem P Q y := by rw [← hy]; exact HG.out.mem_pow HG.out.mem_g x
              obtain ⟨a, ha⟩ : ∃ a, powm G r P = a := ⟨_, rfl⟩
              have ma : Mem P Q a := by rw [← ha]; exact HG.out.mem_pow HG.out.mem_g r
              obtain ⟨b, hb⟩ : ∃ b, powm G m P * powm y r P % P = b := ⟨_, rfl⟩
              have mb : Mem P Q b := by rw [← hb]; exact HG.out.mem_mul (HG.out.mem_pow HG.out.mem_g m) (HG.out.mem_pow my r)
              have y0 : 0 ≤ y := Int.le_of_lt my.1
              have a0 : 0 ≤ a := Int.le_of_lt ma.1
              have b0 : 0 ≤ b := Int.le_of_lt mb.1
              have hvv : powm G m P * powm a x P % P = b := by rw [← hb, ← ha, ← hy, powm_swap hx hr]
              have HY := Lib.hid hy
              have HE := Lib.hid (show EncS P Q G y m r a b 0 from .inl ⟨askS_ok HH.out (by simpa using ⟨mQ, rQ⟩) (by simpa using my.2.1), ha, hb, rfl⟩)
              have HC := Lib.hid (show ValS P Q G a b true 0 from .inl ⟨askS_ok HH.out (by simp) (by simpa using ⟨ma.2.1, mb.2.1⟩), by simp [ma, mb], rfl⟩)
              by_cases hle : m ≤ most
              case neg =>
                have hm : most < m := by omega
                clear hle
                have HD := Lib.hid (show DecS P Q G x a b most 0 6 from decS_of HG.out HH.out hx xQ ma mb.2.1 t0 t1 (Int.le_of_lt (HG.out.mem_pow HG.out.mem_g m).1) (HG.out.mem_pow HG.out.mem_g m).2.1 hvv (logS_out HG.out m0 mQ hm))
                clear hy ha hb hvv my ma mb
                have F_g := Lib.hid (show Boxed (w.alloc (.cells #[.int .u64 P, .int .u64 Q, .int .u64 G] 24)) (w.heap.size) P Q G from Boxed.at _ P Q G _ (w.heap.size) (by simp))
                have HBW := Lib.hid (show Below w.heap.size w (w.alloc (.cells #[.int .u64 P, .int .u64 Q, .int .u64 G] 24)) from (Below.refl _ _).alloc (by simp <;> omega) _)
                go_enter Try.func7, Try.ntmps7
                obtain ⟨x0a, x0b, x0c, -⟩ := id F_g.out
                go_wp2_with fail
                clear x0a x0b x0c
                refine (alive_yes _).mono ?_
                rintro e w1 ⟨rfl, hb1⟩
                replace F_g := Lib.hid (F_g.out.keep hb1)
                replace HBW := Lib.hid (HBW.out.trans (hb1.mono HBW.out.size))
                clear hb1
                obtain ⟨x0a, x0b, x0c, -⟩ := id F_g.out
                go_wp2_with fail
                clear x0a x0b x0c
                refine (gcheck_any P Q G 0 _ hP hQ hG HV.out).mono ?_
                rintro e w2 ⟨rfl, hb2⟩
                replace F_g := Lib.hid (F_g.out.keep hb2)
                replace HBW := Lib.hid (HBW.out.trans (hb2.mono HBW.out.size))
                clear hb2
                obtain ⟨x0a, x0b, x0c, -⟩ := id F_g.out
                go_wp2_with fail
                clear x0a x0b x0c
                refine (pow_ok P Q G G x y _ HH.out hG gP UX.out HY.out).mono ?_
                rintro e w3 ⟨rfl, hb3⟩
                replace F_g := Lib.hid (F_g.out.keep hb3)
                replace HBW := Lib.hid (HBW.out.trans (hb3.mono HBW.out.size))
                clear hb3
                obtain ⟨x0a, x0b, x0c, -⟩ := id F_g.out
                go_wp2_with fail
                clear x0a x0b x0c
                refine (encrypt_gen _ hP hQ hG y0 m0 hr HE.out).mono ?_
                rintro e w4 ⟨rfl, hb4⟩
                replace F_g := Lib.hid (F_g.out.keep hb4)
                replace HBW := Lib.hid (HBW.out.trans (hb4.mono HBW.out.size))
                clear hb4
                replace F_g := Lib.hid (F_g.out.alloc (.cells #[.int .u64 a, .int .u64 b] 26))
                have F_c := Lib.hid (Pair.new w4 a b 26)
                replace HBW := Lib.hid (HBW.out.alloc HBW.out.size (.cells #[.int .u64 a, .int .u64 b] 26))
                obtain ⟨x0a, x0b, x0c, -⟩ := id F_g.out
                obtain ⟨x1a, x1b, x1c, x1d, -⟩ := id F_c.out
                go_wp2_with fail
                clear x0a x0b x0c x1a x1b x1c x1d
                refine (edecrypt_gen _ hP hQ hG hx a0 b0 HD.out).mono ?_
                rintro e w5 ⟨rfl, hb5⟩
                replace F_g := Lib.hid (F_g.out.keep hb5)
                replace F_c := Lib.hid (F_c.out.keep hb5)
                replace HBW := Lib.hid (HBW.out.trans (hb5.mono HBW.out.size))
                clear hb5
                obtain ⟨x0a, x0b, x0c, -⟩ := id F_g.out
                obtain ⟨x1a, x1b, x1c, x1d, -⟩ := id F_c.out
                go_wp2_with fail
                clear x0a x0b x0c x1a x1b x1c x1d
                refine (evalid_gen _ hP hQ hG a0 b0 HC.out).mono ?_
                rintro e w6 ⟨rfl, hb6⟩
                replace F_g := Lib.hid (F_g.out.keep hb6)
                replace F_c := Lib.hid (F_c.out.keep hb6)
                replace HBW := Lib.hid (HBW.out.trans (hb6.mono HBW.out.size))
                clear hb6
                obtain ⟨x0a, x0b, x0c, -⟩ := id F_g.out
                obtain ⟨x1a, x1b, x1c, x1d, -⟩ := id F_c.out
                go_wp2_with fail
                go_ret
                exact ⟨rfl, HBW.out⟩
              case pos =>
                have hm : m ≤ most := hle
                clear hle
                have HD := Lib.hid (show DecS P Q G x a b most m 0 from decS_of HG.out HH.out hx xQ ma mb.2.1 t0 t1 (Int.le_of_lt (HG.out.mem_pow HG.out.mem_g m).1) (HG.out.mem_pow HG.out.mem_g m).2.1 hvv (logS_in HG.out m0 mQ hm))
                clear hy ha hb hvv my ma mb
                have F_g := Lib.hid (show Boxed (w.alloc (.cells #[.int .u64 P, .int .u64 Q, .int .u64 G] 24)) (w.heap.size) P Q G from Boxed.at _ P Q G _ (w.heap.size) (by simp))
                have HBW := Lib.hid (show Below w.heap.size w (w.alloc (.cells #[.int .u64 P, .int .u64 Q, .int .u64 G] 24)) from (Below.refl _ _).alloc (by simp <;> omega) _)
                go_enter Try.func7, Try.ntmps7
                obtain ⟨x0a, x0b, x0c, -⟩ := id F_g.out
                go_wp2_with fail
                clear x0a x0b x0c
                refine (alive_yes _).mono ?_
                rintro e w1 ⟨rfl, hb1⟩
                replace F_g := Lib.hid (F_g.out.keep hb1)
                replace HBW := Lib.hid (HBW.out.trans (hb1.mono HBW.out.size))
                clear hb1
                obtain ⟨x0a, x0b, x0c, -⟩ := id F_g.out
                go_wp2_with fail
                clear x0a x0b x0c
                refine (gcheck_any P Q G 0 _ hP hQ hG HV.out).mono ?_
                rintro e w2 ⟨rfl, hb2⟩
                replace F_g := Lib.hid (F_g.out.keep hb2)
                replace HBW := Lib.hid (HBW.out.trans (hb2.mono HBW.out.size))
                clear hb2
                obtain ⟨x0a, x0b, x0c, -⟩ := id F_g.out
                go_wp2_with fail
                clear x0a x0b x0c
                refine (pow_ok P Q G G x y _ HH.out hG gP UX.out HY.out).mono ?_
                rintro e w3 ⟨rfl, hb3⟩
                replace F_g := Lib.hid (F_g.out.keep hb3)
                replace HBW := Lib.hid (HBW.out.trans (hb3.mono HBW.out.size))
                clear hb3
                obtain ⟨x0a, x0b, x0c, -⟩ := id F_g.out
                go_wp2_with fail
                clear x0a x0b x0c
                refine (encrypt_gen _ hP hQ hG y0 m0 hr HE.out).mono ?_
                rintro e w4 ⟨rfl, hb4⟩
                replace F_g := Lib.hid (F_g.out.keep hb4)
                replace HBW := Lib.hid (HBW.out.trans (hb4.mono HBW.out.size))
                clear hb4
                replace F_g := Lib.hid (F_g.out.alloc (.cells #[.int .u64 a, .int .u64 b] 26))
                have F_c := Lib.hid (Pair.new w4 a b 26)
                replace HBW := Lib.hid (HBW.out.alloc HBW.out.size (.cells #[.int .u64 a, .int .u64 b] 26))
                obtain ⟨x0a, x0b, x0c, -⟩ := id F_g.out
                obtain ⟨x1a, x1b, x1c, x1d, -⟩ := id F_c.out
                go_wp2_with fail
                clear x0a x0b x0c x1a x1b x1c x1d
                refine (edecrypt_gen _ hP hQ hG hx a0 b0 HD.out).mono ?_
                rintro e w5 ⟨rfl, hb5⟩
                replace F_g := Lib.hid (F_g.out.keep hb5)
                replace F_c := Lib.hid (F_c.out.keep hb5)
                replace HBW := Lib.hid (HBW.out.trans (hb5.mono HBW.out.size))
                clear hb5
                obtain ⟨x0a, x0b, x0c, -⟩ := id F_g.out
                obtain ⟨x1a, x1b, x1c, x1d, -⟩ := id F_c.out
                go_wp2_with fail
                clear x0a x0b x0c x1a x1b x1c x1d
                refine (evalid_gen _ hP hQ hG a0 b0 HC.out).mono ?_
                rintro e w6 ⟨rfl, hb6⟩
                replace F_g := Lib.hid (F_g.out.keep hb6)
                replace F_c := Lib.hid (F_c.out.keep hb6)
                replace HBW := Lib.hid (HBW.out.trans (hb6.mono HBW.out.size))
                clear hb6
                obtain ⟨x0a, x0b, x0c, -⟩ := id F_g.out
                obtain ⟨x1a, x1b, x1c, x1d, -⟩ := id F_c.out
                go_wp2_with fail
                clear x0a x0b x0c x1a x1b x1c x1d
                refine (opens_yes m _).mono ?_
                rintro e w7 ⟨rfl, rfl⟩
                obtain ⟨x0a, x0b, x0c, -⟩ := id F_g.out
                obtain ⟨x1a, x1b, x1c, x1d, -⟩ := id F_c.out
                go_wp2_with fail
                go_ret
                exact ⟨rfl, HBW.out⟩


set_option maxRecDepth 100000 in
theorem lifted (os : Os) (started : os.Started) (H : Type) (enc : TypeId × Value → H) :
    ReturnsInHanded {} Try.checked os 7 .any (Rows.elgamalDecryptsSpec.pre6 enc Try.prog Try.f7 Rows.elgamalDecryptsRow.domain false) (Rows.elgamalDecryptsSpec.post enc Try.prog Try.f7 false true false false) := by
  refine returnsInHanded_of_change (C := Try.checked) own started (by kernel_rfl) Try.func7
    (ChangeSpec.witness6 (enc := enc) (C := Try.checked) false ⟨#[], #[.agg #[.int .u64 0, .int .u64 0, .int .u64 0], .int .u64 0, .int .u16 0, .int .u64 0, .int .i64 0], []⟩ 8 (by kernel_rfl) (by kernel_rfl) (by kernel_rfl) (by kernel_rfl)) ?_
  intro W base args ds gs before hval0 hW _ _
  have hval : ∀ (j : Nat) t v, Try.f7.params[j]? = some t → args[j]? = some v → Value.okWide Try.prog W .any base t v := hval0
  have hW' := hW
  obtain ⟨p, q, hA0, hV, rfl, hfz, hnd⟩ := hW
  have hA : DataW.TrodAll enc Try.prog W 0 (fun _ => true) true Try.f7.params.toList args.toList ds p := hA0
  rw [Try.params7] at hA hval
  have hK := hA
  obtain ⟨v0, vs0, d0, ds0, p0, q0, hargs, rfl, rfl, h0, r0⟩ := trodAll_cons hA
  obtain ⟨v1, vs1, d1, ds1, p1, q1, rfl, rfl, rfl, h1, r1⟩ := trodAll_cons r0
  obtain ⟨v2, vs2, d2, ds2, p2, q2, rfl, rfl, rfl, h2, r2⟩ := trodAll_cons r1
  obtain ⟨v3, vs3, d3, ds3, p3, q3, rfl, rfl, rfl, h3, r3⟩ := trodAll_cons r2
  obtain ⟨v4, vs4, d4, ds4, p4, q4, rfl, rfl, rfl, h4, r4⟩ := trodAll_cons r3
  obtain ⟨rfl, rfl, rfl⟩ := trodAll_nil r4
  obtain rfl : args = #[v0, v1, v2, v3, v4] := by cases args; simp_all
  obtain ⟨rfl, rfl⟩ := trodVars_none hV
  obtain ⟨P, Q, G, rfl, uP, uQ, uG⟩ := open_group (hval 0 24 v0 rfl rfl) h0
  obtain ⟨x, rfl, ux⟩ := open_u64 (hval 1 22 v1 rfl rfl) h1
  obtain ⟨m, rfl, um⟩ := open_u16 (hval 2 61 v2 rfl rfl) h2
  obtain ⟨r, rfl, ur⟩ := open_u64 (hval 3 22 v3 rfl rfl) h3
  obtain ⟨most, rfl, ut⟩ := open_i64 (hval 4 3 v4 rfl rfl) h4
  clear hA0 hval0
  refine (walk P Q G x m r most W uP uQ uG ux um ur ut).mono fun e W' ⟨he, bel⟩ => ?_
  subst he
  exact ⟨_, rfl, _, _, _, [], _, [], hW', trodAll_mk1 (shut_bool Try.underlying4 _), trodAll_stays laidOut (by kernel_rfl) hK bel, rfl, bel.frame _, fun h => by cases h⟩

theorem over : Rows.elgamalDecryptsRow.holds Try.pinned (OpenSpec.ofChange Rows.elgamalDecryptsSpec) :=
  OpenClaim.holds_of_wide 7 Try.f7 rfl rfl rfl rfl rfl rfl rfl ⟨rfl, rfl, rfl, rfl, rfl⟩ rfl rfl rfl rfl rfl (by kernel_rfl) Try.func7 (by kernel_rfl)
    (of_decide_eq_true (by kernel_rfl)) (by unfold Func.isWrapper; first | (rw [if_pos (by decide +kernel)]; kernel_rfl) | (rw [if_neg (by decide +kernel)]; exact ⟨rfl, rfl⟩))
    (fun os started H enc _ => lifted os started H enc)

theorem proved : Rows.ElgamalDecryptsSaid := over
#print axioms proved
end Go.Proofs.Ytffefhldfnfohaa.lawDecrypts
