/- ElgamalBinds: the statement: for every input the law returns true, and the arguments read as before. -/
import Derived.Test.YtffefhldfnfohaaAux32
import Derived.Test.YtffefhldfnfohaaLaw32
import Derived.Test.YtffefhldfnfohaaOpen
import Derived.Test.YtffefhldfnfohaaRows
namespace Go.Proofs.Ytffefhldfnfohaa.lawBinds
open Go.ChangeShapes Go.WideShapes Go.ChangeAt Go.RowKit Num
set_option linter.unusedSimpArgs false
set_option linter.unusedVariables false

set_option maxRecDepth 100000 in
set_option maxHeartbeats 12800000 in
theorem walk (P Q G y m r n s : Int) (w : World) (uP : U64 P) (uQ : U64 Q) (uG : U64 G) (uy : U64 y) (um : U64 m) (ur : U64 r) (un : U64 n) (us : U64 s) :
    Calls Try.prog 6 #[.agg #[.int .u64 P, .int .u64 Q, .int .u64 G], .int .u64 y, .int .u64 m, .int .u64 r, .int .u64 n, .int .u64 s] w fun e w' => e = .returned (.bool true) ∧ Below w.heap.size w w' := by
  have hP := uP.1
  have hQ := uQ.1
  have hG := uG.1
  have hy := uy.1
  have hm := um.1
  have hr := ur.1
  have hn := un.1
  have hs := us.1
  by_cases hv : Valid P Q G
  case neg =>
    have HV := Lib.hid (show ValidS P Q G 300 from .inr ⟨hv, rfl⟩)
    obtain ⟨v, c, hm⟩ := RetB.exists (checkS P Q G P [y]) (Mem P Q y)
    have HM := Lib.hid hm
    clear hm hv
    have F_g := Lib.hid (show Boxed (w.alloc (.cells #[.int .u64 P, .int .u64 Q, .int .u64 G] 24)) (w.heap.size) P Q G from Boxed.at _ P Q G _ (w.heap.size) (by simp))
    have HBW := Lib.hid (show Below w.heap.size w (w.alloc (.cells #[.int .u64 P, .int .u64 Q, .int .u64 G] 24)) from (Below.refl _ _).alloc (by simp <;> omega) _)
    go_enter Try.func6, Try.ntmps6
    obtain ⟨x0a, x0b, x0c, -⟩ := id F_g.out
    go_wp2_with fail
    clear x0a x0b x0c
    refine (alive_yes _).mono ?_
    rintro e w1 ⟨rfl, hb1⟩
    replace F_g := Lib.hid (F_g.out.keep hb1)
    replace HBW := Lib.hid (HBW.out.trans (hb1.mono HBW.out.size))
    clear hb1
    obtain ⟨x0a, x0b, x0c, -⟩ := id F_g.out
    go_wp2_with fail
    clear x0a x0b x0c
    refine (member_gen hP hQ hG _ hy HM.out).mono ?_
    rintro e w2 ⟨rfl, hb2⟩
    replace F_g := Lib.hid (F_g.out.keep hb2)
    replace HBW := Lib.hid (HBW.out.trans (hb2.mono HBW.out.size))
    clear hb2
    obtain ⟨x0a, x0b, x0c, -⟩ := id F_g.out
    go_wp2_with fail
    clear x0a x0b x0c
    refine (gcheck_any P Q G 300 _ hP hQ hG HV.out).mono ?_
    rintro e w3 ⟨rfl, hb3⟩
    replace F_g := Lib.hid (F_g.out.keep hb3)
    replace HBW := Lib.hid (HBW.out.trans (hb3.mono HBW.out.size))
    clear hb3
    obtain ⟨x0a, x0b, x0c, -⟩ := id F_g.out
    go_wp2_with fail
    go_ret
    exact ⟨rfl, HBW.out⟩
  case pos =>
    have HV := Lib.hid (show ValidS P Q G 0 from .inl ⟨hv, rfl⟩)
    have HG := Lib.hid hv.grp
    have HH := Lib.hid hv.has
    clear hv
    by_cases hc : checkS P Q G P [y] = 0
    case neg =>
      obtain ⟨c, hcc⟩ : ∃ c, checkS P Q G P [y] = c := ⟨_, rfl⟩
      have HM := Lib.hid (show RetB (checkS P Q G P [y]) (Mem P Q y) false c from .inr ⟨hc, rfl, hcc.symm⟩)
      have hn : (c != 0) = true := by rw [← hcc]; simpa using hc
      clear hc hcc
      have F_g := Lib.hid (show Boxed (w.alloc (.cells #[.int .u64 P, .int .u64 Q, .int .u64 G] 24)) (w.heap.size) P Q G from Boxed.at _ P Q G _ (w.heap.size) (by simp))
      have HBW := Lib.hid (show Below w.heap.size w (w.alloc (.cells #[.int .u64 P, .int .u64 Q, .int .u64 G] 24)) from (Below.refl _ _).alloc (by simp <;> omega) _)
      go_enter Try.func6, Try.ntmps6
      obtain ⟨x0a, x0b, x0c, -⟩ := id F_g.out
      go_wp2_with fail
      clear x0a x0b x0c
      refine (alive_yes _).mono ?_
      rintro e w1 ⟨rfl, hb1⟩
      replace F_g := Lib.hid (F_g.out.keep hb1)
      replace HBW := Lib.hid (HBW.out.trans (hb1.mono HBW.out.size))
      clear hb1
      obtain ⟨x0a, x0b, x0c, -⟩ := id F_g.out
      go_wp2_with fail
      clear x0a x0b x0c
      refine (member_gen hP hQ hG _ hy HM.out).mono ?_
      rintro e w2 ⟨rfl, hb2⟩
      replace F_g := Lib.hid (F_g.out.keep hb2)
      replace HBW := Lib.hid (HBW.out.trans (hb2.mono HBW.out.size))
      clear hb2
      obtain ⟨x0a, x0b, x0c, -⟩ := id F_g.out
      go_wp2_with fail
      clear x0a x0b x0c
      refine (gcheck_any P Q G 0 _ hP hQ hG HV.out).mono ?_
      rintro e w3 ⟨rfl, hb3⟩
      replace F_g := Lib.hid (F_g.out.keep hb3)
      replace HBW := Lib.hid (HBW.out.trans (hb3.mono HBW.out.size))
      clear hb3
      obtain ⟨x0a, x0b, x0c, -⟩ := id F_g.out
      go_wp2_with fail
      go_ret
      exact ⟨rfl, HBW.out⟩
    case pos =>
      have HC := Lib.hid hc
      clear hc
      by_cases hme : Mem P Q y
      case neg =>
        have HM := Lib.hid (show RetB (checkS P Q G P [y]) (Mem P Q y) false 0 from .inl ⟨HC.out, by simp [hme], rfl⟩)
        clear hme
        have F_g := Lib.hid (show Boxed (w.alloc (.cells #[.int .u64 P, .int .u64 Q, .int .u64 G] 24)) (w.heap.size) P Q G from Boxed.at _ P Q G _ (w.heap.size) (by simp))
        have HBW := Lib.hid (show Below w.heap.size w (w.alloc (.cells #[.int .u64 P, .int .u64 Q, .int .u64 G] 24)) from (Below.refl _ _).alloc (by simp <;> omega) _)
        go_enter Try.func6, Try.ntmps6
        obtain ⟨x0a, x0b, x0c, -⟩ := id F_g.out
        go_wp2_with fail
        clear x0a x0b x0c
        refine (alive_yes _).mono ?_
        rintro e w1 ⟨rfl, hb1⟩
        replace F_g := Lib.hid (F_g.out.keep hb1)
        replace HBW := Lib.hid (HBW.out.trans (hb1.mono HBW.out.size))
        clear hb1
        obtain ⟨x0a, x0b, x0c, -⟩ := id F_g.out
        go_wp2_with fail
        clear x0a x0b x0c
        refine (member_gen hP hQ hG _ hy HM.out).mono ?_
        rintro e w2 ⟨rfl, hb2⟩
        replace F_g := Lib.hid (F_g.out.keep hb2)
        replace HBW := Lib.hid (HBW.out.trans (hb2.mono HBW.out.size))
        clear hb2
        obtain ⟨x0a, x0b, x0c, -⟩ := id F_g.out
        go_wp2_with fail
        clear x0a x0b x0c
        refine (gcheck_any P Q G 0 _ hP hQ hG HV.out).mono ?_
        rintro e w3 ⟨rfl, hb3⟩
        replace F_g := Lib.hid (F_g.out.keep hb3)
        replace HBW := Lib.hid (HBW.out.trans (hb3.mono HBW.out.size))
        clear hb3
        obtain ⟨x0a, x0b, x0c, -⟩ := id F_g.out
        go_wp2_with fail
        go_ret
        exact ⟨rfl, HBW.out⟩
      case pos =>
        have HM := Lib.hid (show RetB (checkS P Q G P [y]) (Mem P Q y) true 0 from .inl ⟨HC.out, by simp [hme], rfl⟩)
        have HME := Lib.hid hme
        clear hme
        obtain ⟨a1, a2, ac, hE⟩ := EncS.exists P Q G y m r
        obtain ⟨b1, b2, bc, hF⟩ := EncS.exists P Q G y n s
        by_cases hac : ac = 0
        case neg =>
          have hnb : (ac != 0) = true := by
            rcases hE with ⟨-, -, -, h⟩ | ⟨h1, -, -, h⟩
            · exact absurd h hac
            · simpa using hac
          have HE := Lib.hid hE
          have HF := Lib.hid hF
          clear hE hF hac
          have F_g := Lib.hid (show Boxed (w.alloc (.cells #[.int .u64 P, .int .u64 Q, .int .u64 G] 24)) (w.heap.size) P Q G from Boxed.at _ P Q G _ (w.heap.size) (by simp))
          have HBW := Lib.hid (show Below w.heap.size w (w.alloc (.cells #[.int .u64 P, .int .u64 Q, .int .u64 G] 24)) from (Below.refl _ _).alloc (by simp <;> omega) _)
          go_enter Try.func6, Try.ntmps6
          obtain ⟨x0a, x0b, x0c, -⟩ := id F_g.out
          go_wp2_with fail
          clear x0a x0b x0c
          refine (alive_yes _).mono ?_
          rintro e w1 ⟨rfl, hb1⟩
          replace F_g := Lib.hid (F_g.out.keep hb1)
          replace HBW := Lib.hid (HBW.out.trans (hb1.mono HBW.out.size))
          clear hb1
          obtain ⟨x0a, x0b, x0c, -⟩ := id F_g.out
          go_wp2_with fail
          clear x0a x0b x0c
          refine (member_gen hP hQ hG _ hy HM.out).mono ?_
          rintro e w2 ⟨rfl, hb2⟩
          replace F_g := Lib.hid (F_g.out.keep hb2)
          replace HBW := Lib.hid (HBW.out.trans (hb2.mono HBW.out.size))
          clear hb2
          obtain ⟨x0a, x0b, x0c, -⟩ := id F_g.out
          go_wp2_with fail
          clear x0a x0b x0c
          refine (gcheck_any P Q G 0 _ hP hQ hG HV.out).mono ?_
          rintro e w3 ⟨rfl, hb3⟩
          replace F_g := Lib.hid (F_g.out.keep hb3)
          replace HBW := Lib.hid (HBW.out.trans (hb3.mono HBW.out.size))
          clear hb3
          obtain ⟨x0a, x0b, x0c, -⟩ := id F_g.out
          go_wp2_with fail
          clear x0a x0b x0c
          refine (encrypt_gen _ hP hQ hG hy hm hr HE.out).mono ?_
          rintro e w4 ⟨rfl, hb4⟩
          replace F_g := Lib.hid (F_g.out.keep hb4)
          replace HBW := Lib.hid (HBW.out.trans (hb4.mono HBW.out.size))
          clear hb4
          replace F_g := Lib.hid (F_g.out.alloc (.cells #[.int .u64 a1, .int .u64 a2] 26))
          have F_x1 := Lib.hid (Pair.new w4 a1 a2 26)
          replace HBW := Lib.hid (HBW.out.alloc HBW.out.size (.cells #[.int .u64 a1, .int .u64 a2] 26))
          obtain ⟨x0a, x0b, x0c, -⟩ := id F_g.out
          obtain ⟨x1a, x1b, x1c, x1d, -⟩ := id F_x1.out
          go_wp2_with fail
          clear x0a x0b x0c x1a x1b x1c x1d
          refine (encrypt_gen _ hP hQ hG hy hn hs HF.out).mono ?_
          rintro e w5 ⟨rfl, hb5⟩
          replace F_g := Lib.hid (F_g.out.keep hb5)
          replace F_x1 := Lib.hid (F_x1.out.keep hb5)
          replace HBW := Lib.hid (HBW.out.trans (hb5.mono HBW.out.size))
          clear hb5
          replace F_g := Lib.hid (F_g.out.alloc (.cells #[.int .u64 b1, .int .u64 b2] 26))
          replace F_x1 := Lib.hid (F_x1.out.alloc (.cells #[.int .u64 b1, .int .u64 b2] 26))
          have F_x2 := Lib.hid (Pair.new w5 b1 b2 26)
          replace HBW := Lib.hid (HBW.out.alloc HBW.out.size (.cells #[.int .u64 b1, .int .u64 b2] 26))
          obtain ⟨x0a, x0b, x0c, -⟩ := id F_g.out
          obtain ⟨x1a, x1b, x1c, x1d, -⟩ := id F_x1.out
          obtain ⟨x2a, x2b, x2c, x2d, -⟩ := id F_x2.out
          go_wp2_with fail
          go_ret
          exact ⟨rfl, HBW.out⟩
        case pos =>
          subst hac
          by_cases hbc : bc = 0
          case neg =>
            have hnb : (bc != 0) = true := by simpa using hbc
            have HE := Lib.hid hE
            have HF := Lib.hid hF
            clear hE hF hbc
            have F_g := Lib.hid (show Boxed (w.alloc (.cells #[.int .u64 P, .int .u64 Q, .int .u64 G] 24)) (w.heap.size) P Q G from Boxed.at _ P Q G _ (w.heap.size) (by simp))
            have HBW := Lib.hid (show Below w.heap.size w (w.alloc (.cells #[.int .u64 P, .int .u64 Q, .int .u64 G] 24)) from (Below.refl _ _).alloc (by simp <;> omega) _)
            go_enter Try.func6, Try.ntmps6
            obtain ⟨x0a, x0b, x0c, -⟩ := id F_g.out
            go_wp2_with fail
            clear x0a x0b x0c
            refine (alive_yes _).mono ?_
            rintro e w1 ⟨rfl, hb1⟩
            replace F_g := Lib.hid (F_g.out.keep hb1)
            replace HBW := Lib.hid (HBW.out.trans (hb1.mono HBW.out.size))
            clear hb1
            obtain ⟨x0a, x0b, x0c, -⟩ := id F_g.out
            go_wp2_with fail
            clear x0a x0b x0c
            refine (member_gen hP hQ hG _ hy HM.out).mono ?_
            rintro e w2 ⟨rfl, hb2⟩
            replace F_g := Lib.hid (F_g.out.keep hb2)
            replace HBW := Lib.hid (HBW.out.trans (hb2.mono HBW.out.size))
            clear hb2
            obtain ⟨x0a, x0b, x0c, -⟩ := id F_g.out
            go_wp2_with fail
            clear x0a x0b x0c
            refine (gcheck_any P Q G 0 _ hP hQ hG HV.out).mono ?_
            rintro e w3 ⟨rfl, hb3⟩
            replace F_g := Lib.hid (F_g.out.keep hb3)
            replace HBW := Lib.hid (HBW.out.trans (hb3.mono HBW.out.size))
            clear hb3
            obtain ⟨x0a, x0b, x0c, -⟩ := id F_g.out
            go_wp2_with fail
            clear x0a x0b x0c
            refine (encrypt_gen _ hP hQ hG hy hm hr HE.out).mono ?_
            rintro e w4 ⟨rfl, hb4⟩
            replace F_g := Lib.hid (F_g.out.keep hb4)
            replace HBW := Lib.hid (HBW.out.trans (hb4.mono HBW.out.size))
            clear hb4
            replace F_g := Lib.hid (F_g.out.alloc (.cells #[.int .u64 a1, .int .u64 a2] 26))
            have F_x1 := Lib.hid (Pair.new w4 a1 a2 26)
            replace HBW := Lib.hid (HBW.out.alloc HBW.out.size (.cells #[.int .u64 a1, .int .u64 a2] 26))
            obtain ⟨x0a, x0b, x0c, -⟩ := id F_g.out
            obtain ⟨x1a, x1b, x1c, x1d, -⟩ := id F_x1.out
            go_wp2_with fail
            clear x0a x0b x0c x1a x1b x1c x1d
            refine (encrypt_gen _ hP hQ hG hy hn hs HF.out).mono ?_
            rintro e w5 ⟨rfl, hb5⟩
            replace F_g := Lib.hid (F_g.out.keep hb5)
            replace F_x1 := Lib.hid (F_x1.out.keep hb5)
            replace HBW := Lib.hid (HBW.out.trans (hb5.mono HBW.out.size))
            clear hb5
            replace F_g := Lib.hid (F_g.out.alloc (.cells #[.int .u64 b1, .int .u64 b2] 26))
            replace F_x1 := Lib.hid (F_x1.out.alloc (.cells #[.int .u64 b1, .int .u64 b2] 26))
            have F_x2 := Lib.hid (Pair.new w5 b1 b2 26)
            replace HBW := Lib.hid (HBW.out.alloc HBW.out.size (.cells #[.int .u64 b1, .int .u64 b2] 26))
            obtain ⟨x0a, x0b, x0c, -⟩ := id F_g.out
            obtain ⟨x1a, x1b, x1c, x1d, -⟩ := id F_x1.out
            obtain ⟨x2a, x2b, x2c, x2d, -⟩ := id F_x2.out
            go_wp2_with fail
            go_ret
            exact ⟨rfl, HBW.out⟩
          case pos =>
            subst hbc
            obtain ⟨hE0, hE1, hE2, -⟩ : askS P Q G [m, r] [y] = 0 ∧ powm G r P = a1 ∧ powm G m P * powm y r P % P = a2 ∧ True := by
              rcases hE with ⟨h1, h2, h3, -⟩ | ⟨h1, -, -, h⟩
              · exact ⟨h1, h2, h3, trivial⟩
              · exact absurd h.symm h1
            obtain ⟨hF0, hF1, hF2, -⟩ : askS P Q G [n, s] [y] = 0 ∧ powm G s P = b1 ∧ powm G n P * powm y s P % P = b2 ∧ True := by
              rcases hF with ⟨h1, h2, h3, -⟩ | ⟨h1, -, -, h⟩
              · exact ⟨h1, h2, h3, trivial⟩
              · exact absurd h.symm h1
            obtain ⟨-, q1, -⟩ := askS_zero hE0
            obtain ⟨-, q2, -⟩ := askS_zero hF0
            have mQ := q1 m (by simp)
            have rQ := q1 r (by simp)
            have nQ := q2 n (by simp)
            have sQ := q2 s (by simp)
            have HE := Lib.hid hE
            have HF := Lib.hid hF
            clear hE hF q1 q2 hE0 hF0
            by_cases hrs : r = s
            case neg =>
              have h1 : (r == s) = false := by simpa using hrs
              have h2 : (a1 == b1) = false := by
                have : ¬ a1 = b1 := fun h => hrs (HG.out.inj HG.out.mem_g HG.out.g_ne hr rQ hs sQ (by rw [hE1, hF1, h]))
                simpa using this
              clear hE1 hE2 hF1 hF2 hrs mQ rQ nQ sQ
              by_cases hmn : m = n
              case neg =>
                have h3 : (m == n) = false := by simpa using hmn
                clear hmn
                have F_g := Lib.hid (show Boxed (w.alloc (.cells #[.int .u64 P, .int .u64 Q, .int .u64 G] 24)) (w.heap.size) P Q G from Boxed.at _ P Q G _ (w.heap.size) (by simp))
                have HBW := Lib.hid (show Below w.heap.size w (w.alloc (.cells #[.int .u64 P, .int .u64 Q, .int .u64 G] 24)) from (Below.refl _ _).alloc (by simp <;> omega) _)
                go_enter Try.func6, Try.ntmps6
                obtain ⟨x0a, x0b, x0c, -⟩ := id F_g.out
                go_wp2_with fail
                clear x0a x0b x0c
                refine (alive_yes _).mono ?_
                rintro e w1 ⟨rfl, hb1⟩
                replace F_g := Lib.hid (F_g.out.keep hb1)
                replace HBW := Lib.hid (HBW.out.trans (hb1.mono HBW.out.size))
                clear hb1
                obtain ⟨x0a, x0b, x0c, -⟩ := id F_g.out
                go_wp2_with fail
                clear x0a x0b x0c
                refine (member_gen hP hQ hG _ hy HM.out).mono ?_
                rintro e w2 ⟨rfl, hb2⟩
                replace F_g := Lib.hid (F_g.out.keep hb2)
                replace HBW := Lib.hid (HBW.out.trans (hb2.mono HBW.out.size))
                clear hb2
                obtain ⟨x0a, x0b, x0c, -⟩ := id F_g.out
                go_wp2_with fail
                clear x0a x0b x0c
                refine (gcheck_any P Q G 0 _ hP hQ hG HV.out).mono ?_
                rintro e w3 ⟨rfl, hb3⟩
                replace F_g := Lib.hid (F_g.out.keep hb3)
                replace HBW := Lib.hid (HBW.out.trans (hb3.mono HBW.out.size))
                clear hb3
                obtain ⟨x0a, x0b, x0c, -⟩ := id F_g.out
                go_wp2_with fail
                clear x0a x0b x0c
                refine (encrypt_gen _ hP hQ hG hy hm hr HE.out).mono ?_
                rintro e w4 ⟨rfl, hb4⟩
                replace F_g := Lib.hid (F_g.out.keep hb4)
                replace HBW := Lib.hid (HBW.out.trans (hb4.mono HBW.out.size))
                clear hb4
                replace F_g := Lib.hid (F_g.out.alloc (.cells #[.int .u64 a1, .int .u64 a2] 26))
                have F_x1 := Lib.hid (Pair.new w4 a1 a2 26)
                replace HBW := Lib.hid (HBW.out.alloc HBW.out.size (.cells #[.int .u64 a1, .int .u64 a2] 26))
                obtain ⟨x0a, x0b, x0c, -⟩ := id F_g.out
                obtain ⟨x1a, x1b, x1c, x1d, -⟩ := id F_x1.out
                go_wp2_with fail
                clear x0a x0b x0c x1a x1b x1c x1d
                refine (encrypt_gen _ hP hQ hG hy hn hs HF.out).mono ?_
                rintro e w5 ⟨rfl, hb5⟩
                replace F_g := Lib.hid (F_g.out.keep hb5)
                replace F_x1 := Lib.hid (F_x1.out.keep hb5)
                replace HBW := Lib.hid (HBW.out.trans (hb5.mono HBW.out.size))
                clear hb5
                replace F_g := Lib.hid (F_g.out.alloc (.cells #[.int .u64 b1, .int .u64 b2] 26))
                replace F_x1 := Lib.hid (F_x1.out.alloc (.cells #[.int .u64 b1, .int .u64 b2] 26))
                have F_x2 := Lib.hid (Pair.new w5 b1 b2 26)
                replace HBW := Lib.hid (HBW.out.alloc HBW.out.size (.cells #[.int .u64 b1, .int .u64 b2] 26))
                obtain ⟨x0a, x0b, x0c, -⟩ := id F_g.out
                obtain ⟨x1a, x1b, x1c, x1d, -⟩ := id F_x1.out
                obtain ⟨x2a, x2b, x2c, x2d, -⟩ := id F_x2.out
                go_wp2_with fail
                go_ret
                exact ⟨rfl, HBW.out⟩
              case pos =>
                subst hmn
                have F_g := Lib.hid (show Boxed (w.alloc (.cells #[.int .u64 P, .int .u64 Q, .int .u64 G] 24)) (w.heap.size) P Q G from Boxed.at _ P Q G _ (w.heap.size) (by simp))
                have HBW := Lib.hid (show Below w.heap.size w (w.alloc (.cells #[.int .u64 P, .int .u64 Q, .int .u64 G] 24)) from (Below.refl _ _).alloc (by simp <;> omega) _)
                go_enter Try.func6, Try.ntmps6
                obtain ⟨x0a, x0b, x0c, -⟩ := id F_g.out
                go_wp2_with fail
                clear x0a x0b x0c
                refine (alive_yes _).mono ?_
                rintro e w1 ⟨rfl, hb1⟩
                replace F_g := Lib.hid (F_g.out.keep hb1)
                replace HBW := Lib.hid (HBW.out.trans (hb1.mono HBW.out.size))
                clear hb1
                obtain ⟨x0a, x0b, x0c, -⟩ := id F_g.out
                go_wp2_with fail
                clear x0a x0b x0c
                refine (member_gen hP hQ hG _ hy HM.out).mono ?_
                rintro e w2 ⟨rfl, hb2⟩
                replace F_g := Lib.hid (F_g.out.keep hb2)
                replace HBW := Lib.hid (HBW.out.trans (hb2.mono HBW.out.size))
                clear hb2
                obtain ⟨x0a, x0b, x0c, -⟩ := id F_g.out
                go_wp2_with fail
                clear x0a x0b x0c
                refine (gcheck_any P Q G 0 _ hP hQ hG HV.out).mono ?_
                rintro e w3 ⟨rfl, hb3⟩
                replace F_g := Lib.hid (F_g.out.keep hb3)
                replace HBW := Lib.hid (HBW.out.trans (hb3.mono HBW.out.size))
                clear hb3
                obtain ⟨x0a, x0b, x0c, -⟩ := id F_g.out
                go_wp2_with fail
                clear x0a x0b x0c
                refine (encrypt_gen _ hP hQ hG hy hm hr HE.out).mono ?_
                rintro e w4 ⟨rfl, hb4⟩
                replace F_g := Lib.hid (F_g.out.keep hb4)
                replace HBW := Lib.hid (HBW.out.trans (hb4.mono HBW.out.size))
                clear hb4
                replace F_g := Lib.hid (F_g.out.alloc (.cells #[.int .u64 a1, .int .u64 a2] 26))
                have F_x1 := Lib.hid (Pair.new w4 a1 a2 26)
                replace HBW := Lib.hid (HBW.out.alloc HBW.out.size (.cells #[.int .u64 a1, .int .u64 a2] 26))
                obtain ⟨x0a, x0b, x0c, -⟩ := id F_g.out
                obtain ⟨x1a, x1b, x1c, x1d, -⟩ := id F_x1.out
                go_wp2_with fail
                clear x0a x0b x0c x1a x1b x1c x1d
                refine (encrypt_gen _ hP hQ hG hy hn hs HF.out).mono ?_
                rintro e w5 ⟨rfl, hb5⟩
                replace F_g := Lib.hid (F_g.out.keep hb5)
                replace F_x1 := Lib.hid (F_x1.out.keep hb5)
                replace HBW := Lib.hid (HBW.out.trans (hb5.mono HBW.out.size))
                clear hb5
                replace F_g := Lib.hid (F_g.out.alloc (.cells #[.int .u64 b1, .int .u64 b2] 26))
                replace F_x1 := Lib.hid (F_x1.out.alloc (.cells #[.int .u64 b1, .int .u64 b2] 26))
                have F_x2 := Lib.hid (Pair.new w5 b1 b2 26)
                replace HBW := Lib.hid (HBW.out.alloc HBW.out.size (.cells #[.int .u64 b1, .int .u64 b2] 26))
                obtain ⟨x0a, x0b, x0c, -⟩ := id F_g.out
                obtain ⟨x1a, x1b, x1c, x1d, -⟩ := id F_x1.out
                obtain ⟨x2a, x2b, x2c, x2d, -⟩ := id F_x2.out
                go_wp2_with fail
                go_ret
                exact ⟨rfl, HBW.out⟩
            case pos =>
              subst hrs
              obtain rfl : a1 = b1 := hE1.symm.trans hF1
              by_cases hmn : m = n
              case neg =>
                have h3 : (m == n) = false := by simpa using hmn
                have h2 : (a2 == b2) = false := by
                  have : ¬ a2 = b2 := fun h => hmn (enc_msg HG.out HME.out hm mQ hn nQ (by rw [hE2, hF2, h]))
                  simpa using this
                clear hE1 hE2 hF1 hF2 hmn mQ rQ nQ sQ
                have F_g := Lib.hid (show Boxed (w.alloc (.cells #[.int .u64 P, .int .u64 Q, .int .u64 G] 24)) (w.heap.size) P Q G from Boxed.at _ P Q G _ (w.heap.size) (by simp))
                have HBW := Lib.hid (show Below w.heap.size w (w.alloc (.cells #[.int .u64 P, .int .u64 Q, .int .u64 G] 24)) from (Below.refl _ _).alloc (by simp <;> omega) _)
                go_enter Try.func6, Try.ntmps6
                obtain ⟨x0a, x0b, x0c, -⟩ := id F_g.out
                go_wp2_with fail
                clear x0a x0b x0c
                refine (alive_yes _).mono ?_
                rintro e w1 ⟨rfl, hb1⟩
                replace F_g := Lib.hid (F_g.out.keep hb1)
                replace HBW := Lib.hid (HBW.out.trans (hb1.mono HBW.out.size))
                clear hb1
                obtain ⟨x0a, x0b, x0c, -⟩ := id F_g.out
                go_wp2_with fail
                clear x0a x0b x0c
                refine (member_gen hP hQ hG _ hy HM.out).mono ?_
                rintro e w2 ⟨rfl, hb2⟩
                replace F_g := Lib.hid (F_g.out.keep hb2)
                replace HBW := Lib.hid (HBW.out.trans (hb2.mono HBW.out.size))
                clear hb2
                obtain ⟨x0a, x0b, x0c, -⟩ := id F_g.out
                go_wp2_with fail
                clear x0a x0b x0c
                refine (gcheck_any P Q G 0 _ hP hQ hG HV.out).mono ?_
                rintro e w3 ⟨rfl, hb3⟩
                replace F_g := Lib.hid (F_g.out.keep hb3)
                replace HBW := Lib.hid (HBW.out.trans (hb3.mono HBW.out.size))
                clear hb3
                obtain ⟨x0a, x0b, x0c, -⟩ := id F_g.out
                go_wp2_with fail
                clear x0a x0b x0c
                refine (encrypt_gen _ hP hQ hG hy hm hr HE.out).mono ?_
                rintro e w4 ⟨rfl, hb4⟩
                replace F_g := Lib.hid (F_g.out.keep hb4)
                replace HBW := Lib.hid (HBW.out.trans (hb4.mono HBW.out.size))
                clear hb4
                replace F_g := Lib.hid (F_g.out.alloc (.cells #[.int .u64 a1, .int .u64 a2] 26))
                have F_x1 := Lib.hid (Pair.new w4 a1 a2 26)
                replace HBW := Lib.hid (HBW.out.alloc HBW.out.size (.cells #[.int .u64 a1, .int .u64 a2] 26))
                obtain ⟨x0a, x0b, x0c, -⟩ := id F_g.out
                obtain ⟨x1a, x1b, x1c, x1d, -⟩ := id F_x1.out
                go_wp2_with fail
                clear x0a x0b x0c x1a x1b x1c x1d
                refine (encrypt_gen _ hP hQ hG hy hn hs HF.out).mono ?_
                rintro e w5 ⟨rfl, hb5⟩
                replace F_g := Lib.hid (F_g.out.keep hb5)
                replace F_x1 := Lib.hid (F_x1.out.keep hb5)
                replace HBW := Lib.hid (HBW.out.trans (hb5.mono HBW.out.size))
                clear hb5
                replace F_g := Lib.hid (F_g.out.alloc (.cells #[.int .u64 a1, .int .u64 b2] 26))
                replace F_x1 := Lib.hid (F_x1.out.alloc (.cells #[.int .u64 a1, .int .u64 b2] 26))
                have F_x2 := Lib.hid (Pair.new w5 a1 b2 26)
                replace HBW := Lib.hid (HBW.out.alloc HBW.out.size (.cells #[.int .u64 a1, .int .u64 b2] 26))
                obtain ⟨x0a, x0b, x0c, -⟩ := id F_g.out
                obtain ⟨x1a, x1b, x1c, x1d, -⟩ := id F_x1.out
                obtain ⟨x2a, x2b, x2c, x2d, -⟩ := id F_x2.out
                go_wp2_with fail
                go_ret
                exact ⟨rfl, HBW.out⟩
              case pos =>
                subst hmn
                obtain rfl : a2 = b2 := hE2.symm.trans hF2
                clear hE1 hE2 hF1 hF2 mQ rQ nQ sQ
                have F_g := Lib.hid (show Boxed (w.alloc (.cells #[.int .u64 P, .int .u64 Q, .int .u64 G] 24)) (w.heap.size) P Q G from Boxed.at _ P Q G _ (w.heap.size) (by simp))
                have HBW := Lib.hid (show Below w.heap.size w (w.alloc (.cells #[.int .u64 P, .int .u64 Q, .int .u64 G] 24)) from (Below.refl _ _).alloc (by simp <;> omega) _)
                go_enter Try.func6, Try.ntmps6
                obtain ⟨x0a, x0b, x0c, -⟩ := id F_g.out
                go_wp2_with fail
                clear x0a x0b x0c
                refine (alive_yes _).mono ?_
                rintro e w1 ⟨rfl, hb1⟩
                replace F_g := Lib.hid (F_g.out.keep hb1)
                replace HBW := Lib.hid (HBW.out.trans (hb1.mono HBW.out.size))
                clear hb1
                obtain ⟨x0a, x0b, x0c, -⟩ := id F_g.out
                go_wp2_with fail
                clear x0a x0b x0c
                refine (member_gen hP hQ hG _ hy HM.out).mono ?_
                rintro e w2 ⟨rfl, hb2⟩
                replace F_g := Lib.hid (F_g.out.keep hb2)
                replace HBW := Lib.hid (HBW.out.trans (hb2.mono HBW.out.size))
                clear hb2
                obtain ⟨x0a, x0b, x0c, -⟩ := id F_g.out
                go_wp2_with fail
                clear x0a x0b x0c
                refine (gcheck_any P Q G 0 _ hP hQ hG HV.out).mono ?_
                rintro e w3 ⟨rfl, hb3⟩
                replace F_g := Lib.hid (F_g.out.keep hb3)
                replace HBW := Lib.hid (HBW.out.trans (hb3.mono HBW.out.size))
                clear hb3
                obtain ⟨x0a, x0b, x0c, -⟩ := id F_g.out
                go_wp2_with fail
                clear x0a x0b x0c
                refine (encrypt_gen _ hP hQ hG hy hm hr HE.out).mono ?_
                rintro e w4 ⟨rfl, hb4⟩
                replace F_g := Lib.hid (F_g.out.keep hb4)
                replace HBW := Lib.hid (HBW.out.trans (hb4.mono HBW.out.size))
                clear hb4
                replace F_g := Lib.hid (F_g.out.alloc (.cells #[.int .u64 a1, .int .u64 a2] 26))
                have F_x1 := Lib.hid (Pair.new w4 a1 a2 26)
                replace HBW := Lib.hid (HBW.out.alloc HBW.out.size (.cells #[.int .u64 a1, .int .u64 a2] 26))
                obtain ⟨x0a, x0b, x0c, -⟩ := id F_g.out
                obtain ⟨x1a, x1b, x1c, x1d, -⟩ := id F_x1.out
                go_wp2_with fail
                clear x0a x0b x0c x1a x1b x1c x1d
                refine (encrypt_gen _ hP hQ hG hy hn hs HF.out).mono ?_
                rintro e w5 ⟨rfl, hb5⟩
                replace F_g := Lib.hid (F_g.out.keep hb5)
                replace F_x1 := Lib.hid (F_x1.out.keep hb5)
                replace HBW := Lib.hid (HBW.out.trans (hb5.mono HBW.out.size))
                clear hb5
                replace F_g := Lib.hid (F_g.out.alloc (.cells #[.int .u64 a1, .int .u64 a2] 26))
                replace F_x1 := Lib.hid (F_x1.out.alloc (.cells #[.int .u64 a1, .int .u64 a2] 26))
                have F_x2 := Lib.hid (Pair.new w5 a1 a2 26)
                replace HBW := Lib.hid (HBW.out.alloc HBW.out.size (.cells #[.int .u64 a1, .int .u64 a2] 26))
                obtain ⟨x0a, x0b, x0c, -⟩ := id F_g.out
                obtain ⟨x1a, x1b, x1c, x1d, -⟩ := id F_x1.out
                obtain ⟨x2a, x2b, x2c, x2d, -⟩ := id F_x2.out
                go_wp2_with fail
                go_ret
                exact ⟨rfl, HBW.out⟩


set_option maxRecDepth 100000 in
theorem lifted (os : Os) (started : os.Started) (H : Type) (enc : TypeId × Value → H) :
    ReturnsInHanded {} Try.checked os 6 .any (Rows.elgamalBindsSpec.pre6 enc Try.prog Try.f6 Rows.elgamalBindsRow.domain false) (Rows.elgamalBindsSpec.post enc Try.prog Try.f6 false true false false) := by
  refine returnsInHanded_of_change (C := Try.checked) own started (by kernel_rfl) Try.func6
    (ChangeSpec.witness6 (enc := enc) (C := Try.checked) false ⟨#[], #[.agg #[.int .u64 0, .int .u64 0, .int .u64 0], .int .u64 0, .int .u64 0, .int .u64 0, .int .u64 0, .int .u64 0], []⟩ 8 (by kernel_rfl) (by kernel_rfl) (by kernel_rfl) (by kernel_rfl)) ?_
  intro W base args ds gs before hval0 hW _ _
  have hval : ∀ (j : Nat) t v, Try.f6.params[j]? = some t → args[j]? = some v → Value.okWide Try.prog W .any base t v := hval0
  have hW' := hW
  obtain ⟨p, q, hA0, hV, rfl, hfz, hnd⟩ := hW
  have hA : DataW.TrodAll enc Try.prog W 0 (fun _ => true) true Try.f6.params.toList args.toList ds p := hA0
  rw [Try.params6] at hA hval
  have hK := hA
  obtain ⟨v0, vs0, d0, ds0, p0, q0, hargs, rfl, rfl, h0, r0⟩ := trodAll_cons hA
  obtain ⟨v1, vs1, d1, ds1, p1, q1, rfl, rfl, rfl, h1, r1⟩ := trodAll_cons r0
  obtain ⟨v2, vs2, d2, ds2, p2, q2, rfl, rfl, rfl, h2, r2⟩ := trodAll_cons r1
  obtain ⟨v3, vs3, d3, ds3, p3, q3, rfl, rfl, rfl, h3, r3⟩ := trodAll_cons r2
  obtain ⟨v4, vs4, d4, ds4, p4, q4, rfl, rfl, rfl, h4, r4⟩ := trodAll_cons r3
  obtain ⟨v5, vs5, d5, ds5, p5, q5, rfl, rfl, rfl, h5, r5⟩ := trodAll_cons r4
  obtain ⟨rfl, rfl, rfl⟩ := trodAll_nil r5
  obtain rfl : args = #[v0, v1, v2, v3, v4, v5] := by cases args; simp_all
  obtain ⟨rfl, rfl⟩ := trodVars_none hV
  obtain ⟨P, Q, G, rfl, uP, uQ, uG⟩ := open_group (hval 0 24 v0 rfl rfl) h0
  obtain ⟨y, rfl, uy⟩ := open_u64 (hval 1 22 v1 rfl rfl) h1
  obtain ⟨m, rfl, um⟩ := open_u64 (hval 2 22 v2 rfl rfl) h2
  obtain ⟨r, rfl, ur⟩ := open_u64 (hval 3 22 v3 rfl rfl) h3
  obtain ⟨n, rfl, un⟩ := open_u64 (hval 4 22 v4 rfl rfl) h4
  obtain ⟨s, rfl, us⟩ := open_u64 (hval 5 22 v5 rfl rfl) h5
  clear hA0 hval0
  refine (walk P Q G y m r n s W uP uQ uG uy um ur un us).mono fun e W' ⟨he, bel⟩ => ?_
  subst he
  exact ⟨_, rfl, _, _, _, [], _, [], hW', trodAll_mk1 (shut_bool Try.underlying4 _), trodAll_stays laidOut (by kernel_rfl) hK bel, rfl, bel.frame _, fun h => by cases h⟩

theorem over : Rows.elgamalBindsRow.holds Try.pinned (OpenSpec.ofChange Rows.elgamalBindsSpec) :=
  OpenClaim.holds_of_wide 6 Try.f6 rfl rfl rfl rfl rfl rfl rfl ⟨rfl, rfl, rfl, rfl, rfl⟩ rfl rfl rfl rfl rfl (by kernel_rfl) Try.func6 (by kernel_rfl)
    (of_decide_eq_true (by kernel_rfl)) (by unfold Func.isWrapper; first | (rw [if_pos (by decide +kernel)]; kernel_rfl) | (rw [if_neg (by decide +kernel)]; exact ⟨rfl, rfl⟩))
    (fun os started H enc _ => lifted os started H enc)

theorem proved : Rows.ElgamalBindsSaid := over
#print axioms proved
end Go.Proofs.Ytffefhldfnfohaa.lawBinds
