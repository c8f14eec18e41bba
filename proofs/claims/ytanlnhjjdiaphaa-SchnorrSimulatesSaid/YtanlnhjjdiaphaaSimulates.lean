/- SchnorrSimulates: the statement: for every input the law returns true, and the arguments read as before. -/
import Derived.Test.YtanlnhjjdiaphaaAux31
import Derived.Test.YtanlnhjjdiaphaaLaw31
import Derived.Test.YtanlnhjjdiaphaaOpen
import Derived.Test.YtanlnhjjdiaphaaRows
namespace Go.Proofs.Ytanlnhjjdiaphaa.lawSimulates
open Go.ChangeShapes Go.WideShapes Go.ChangeAt Go.RowKit Num
set_option linter.unusedSimpArgs false
set_option linter.unusedVariables false

set_option maxRecDepth 100000 in
set_option maxHeartbeats 12800000 in
theorem walk (P Q G y c s o : Int) (w : World) (uP : U64 P) (uQ : U64 Q) (uG : U64 G) (uy : U64 y) (uc : U64 c) (us : U64 s) (uo : U64 o) :
    Calls Try.prog 6 #[.agg #[.int .u64 P, .int .u64 Q, .int .u64 G], .int .u64 y, .int .u64 c, .int .u64 s, .int .u64 o] w fun e w' => e = .returned (.bool true) ∧ Below w.heap.size w w' := by
  have hP := uP.1
  have hQ := uQ.1
  have hG := uG.1
  have hy := uy.1
  have hc := uc.1
  have hs := us.1
  have ho := uo.1
  by_cases hv : Valid P Q G
  case neg =>
    have HV := Lib.hid (show ValidS P Q G 300 from .inr ⟨hv, rfl⟩)
    clear hv
    have F_g := Lib.hid (show Boxed (w.alloc (.cells #[.int .u64 P, .int .u64 Q, .int .u64 G] 24)) (w.heap.size) P Q G from Boxed.at _ P Q G _ (w.heap.size) (by simp))
    have HBW := Lib.hid (show Below w.heap.size w (w.alloc (.cells #[.int .u64 P, .int .u64 Q, .int .u64 G] 24)) from (Below.refl _ _).alloc (by simp <;> omega) _)
    go_enter Try.func6, Try.ntmps6
    obtain ⟨x0a, x0b, x0c, -⟩ := id F_g.out
    go_wp2_with fail
    clear x0a x0b x0c
    refine (alive_yes _).mono ?_
    rintro e w1 ⟨rfl, hb1⟩
    replace F_g := Lib.hid (F_g.out.keep hb1)
    replace HBW := Lib.hid (HBW.out.trans (hb1.mono HBW.out.size))
    clear hb1
    obtain ⟨x0a, x0b, x0c, -⟩ := id F_g.out
    go_wp2_with fail
    clear x0a x0b x0c
    refine (gcheck_any P Q G 300 _ hP hQ hG HV.out).mono ?_
    rintro e w2 ⟨rfl, hb2⟩
    replace F_g := Lib.hid (F_g.out.keep hb2)
    replace HBW := Lib.hid (HBW.out.trans (hb2.mono HBW.out.size))
    clear hb2
    obtain ⟨x0a, x0b, x0c, -⟩ := id F_g.out
    go_wp2_with fail
    go_ret
    exact ⟨rfl, HBW.out⟩
  case pos =>
    have HV := Lib.hid (show ValidS P Q G 0 from .inl ⟨hv, rfl⟩)
    have HG := Lib.hid hv.grp
    have HH := Lib.hid hv.has
    obtain ⟨p5, p3, _, pq, g2, gP⟩ := id hv.1
    have q3 : Q < 1073741824 := by omega
    clear hv pq
    by_cases my : Mem P Q y
    case neg =>
      have HM_y := Lib.hid my
      clear my
      have F_g := Lib.hid (show Boxed (w.alloc (.cells #[.int .u64 P, .int .u64 Q, .int .u64 G] 24)) (w.heap.size) P Q G from Boxed.at _ P Q G _ (w.heap.size) (by simp))
      have HBW := Lib.hid (show Below w.heap.size w (w.alloc (.cells #[.int .u64 P, .int .u64 Q, .int .u64 G] 24)) from (Below.refl _ _).alloc (by simp <;> omega) _)
      go_enter Try.func6, Try.ntmps6
      obtain ⟨x0a, x0b, x0c, -⟩ := id F_g.out
      go_wp2_with fail
      clear x0a x0b x0c
      refine (alive_yes _).mono ?_
      rintro e w1 ⟨rfl, hb1⟩
      replace F_g := Lib.hid (F_g.out.keep hb1)
      replace HBW := Lib.hid (HBW.out.trans (hb1.mono HBW.out.size))
      clear hb1
      obtain ⟨x0a, x0b, x0c, -⟩ := id F_g.out
      go_wp2_with fail
      clear x0a x0b x0c
      refine (gcheck_any P Q G 0 _ hP hQ hG HV.out).mono ?_
      rintro e w2 ⟨rfl, hb2⟩
      replace F_g := Lib.hid (F_g.out.keep hb2)
      replace HBW := Lib.hid (HBW.out.trans (hb2.mono HBW.out.size))
      clear hb2
      obtain ⟨x0a, x0b, x0c, -⟩ := id F_g.out
      go_wp2_with fail
      clear x0a x0b x0c
      refine (member_is (r := false) _ hP hQ hG hy (by simp [HM_y.out])).mono ?_
      rintro e w3 ⟨rfl, hb3⟩
      replace F_g := Lib.hid (F_g.out.keep hb3)
      replace HBW := Lib.hid (HBW.out.trans (hb3.mono HBW.out.size))
      clear hb3
      obtain ⟨x0a, x0b, x0c, -⟩ := id F_g.out
      go_wp2_with fail
      go_ret
      exact ⟨rfl, HBW.out⟩
    case pos =>
      have HM_y := Lib.hid my
      by_cases hcQ : c < Q
      case neg =>
        have hcQ_ : Q ≤ c := by omega
        clear hcQ
        have F_g := Lib.hid (show Boxed (w.alloc (.cells #[.int .u64 P, .int .u64 Q, .int .u64 G] 24)) (w.heap.size) P Q G from Boxed.at _ P Q G _ (w.heap.size) (by simp))
        have HBW := Lib.hid (show Below w.heap.size w (w.alloc (.cells #[.int .u64 P, .int .u64 Q, .int .u64 G] 24)) from (Below.refl _ _).alloc (by simp <;> omega) _)
        go_enter Try.func6, Try.ntmps6
        obtain ⟨x0a, x0b, x0c, -⟩ := id F_g.out
        go_wp2_with fail
        clear x0a x0b x0c
        refine (alive_yes _).mono ?_
        rintro e w1 ⟨rfl, hb1⟩
        replace F_g := Lib.hid (F_g.out.keep hb1)
        replace HBW := Lib.hid (HBW.out.trans (hb1.mono HBW.out.size))
        clear hb1
        obtain ⟨x0a, x0b, x0c, -⟩ := id F_g.out
        go_wp2_with fail
        clear x0a x0b x0c
        refine (gcheck_any P Q G 0 _ hP hQ hG HV.out).mono ?_
        rintro e w2 ⟨rfl, hb2⟩
        replace F_g := Lib.hid (F_g.out.keep hb2)
        replace HBW := Lib.hid (HBW.out.trans (hb2.mono HBW.out.size))
        clear hb2
        obtain ⟨x0a, x0b, x0c, -⟩ := id F_g.out
        go_wp2_with fail
        clear x0a x0b x0c
        refine (member_is (r := true) _ hP hQ hG hy (by simp [HM_y.out, HH.out])).mono ?_
        rintro e w3 ⟨rfl, hb3⟩
        replace F_g := Lib.hid (F_g.out.keep hb3)
        replace HBW := Lib.hid (HBW.out.trans (hb3.mono HBW.out.size))
        clear hb3
        obtain ⟨x0a, x0b, x0c, -⟩ := id F_g.out
        go_wp2_with fail
        go_ret
        exact ⟨rfl, HBW.out⟩
      case pos =>
        have cQ := hcQ
        clear hcQ
        by_cases hsQ : s < Q
        case neg =>
          have hsQ_ : Q ≤ s := by omega
          clear hsQ
          have F_g := Lib.hid (show Boxed (w.alloc (.cells #[.int .u64 P, .int .u64 Q, .int .u64 G] 24)) (w.heap.size) P Q G from Boxed.at _ P Q G _ (w.heap.size) (by simp))
          have HBW := Lib.hid (show Below w.heap.size w (w.alloc (.cells #[.int .u64 P, .int .u64 Q, .int .u64 G] 24)) from (Below.refl _ _).alloc (by simp <;> omega) _)
          go_enter Try.func6, Try.ntmps6
          obtain ⟨x0a, x0b, x0c, -⟩ := id F_g.out
          go_wp2_with fail
          clear x0a x0b x0c
          refine (alive_yes _).mono ?_
          rintro e w1 ⟨rfl, hb1⟩
          replace F_g := Lib.hid (F_g.out.keep hb1)
          replace HBW := Lib.hid (HBW.out.trans (hb1.mono HBW.out.size))
          clear hb1
          obtain ⟨x0a, x0b, x0c, -⟩ := id F_g.out
          go_wp2_with fail
          clear x0a x0b x0c
          refine (gcheck_any P Q G 0 _ hP hQ hG HV.out).mono ?_
          rintro e w2 ⟨rfl, hb2⟩
          replace F_g := Lib.hid (F_g.out.keep hb2)
          replace HBW := Lib.hid (HBW.out.trans (hb2.mono HBW.out.size))
          clear hb2
          obtain ⟨x0a, x0b, x0c, -⟩ := id F_g.out
          go_wp2_with fail
          clear x0a x0b x0c
          refine (member_is (r := true) _ hP hQ hG hy (by simp [HM_y.out, HH.out])).mono ?_
          rintro e w3 ⟨rfl, hb3⟩
          replace F_g := Lib.hid (F_g.out.keep hb3)
          replace HBW := Lib.hid (HBW.out.trans (hb3.mono HBW.out.size))
          clear hb3
          obtain ⟨x0a, x0b, x0c, -⟩ := id F_g.out
          go_wp2_with fail
          go_ret
          exact ⟨rfl, HBW.out⟩
        case pos =>
          have sQ := hsQ
          clear hsQ
          obtain ⟨a, ha⟩ : ∃ a, powm G s P = a := ⟨_, rfl⟩
          obtain ⟨b, hb⟩ : ∃ b, powm y c P = b := ⟨_, rfl⟩
          have ma : Mem P Q a := by rw [← ha]; exact HG.out.mem_pow HG.out.mem_g s
          have mb : Mem P Q b := by rw [← hb]; exact HG.out.mem_pow my c
          obtain ⟨u, hu⟩ := HG.out.pP.inv (HG.out.nd mb)
          obtain ⟨r, hr⟩ : ∃ r, a * u % P = r := ⟨_, rfl⟩
          obtain ⟨s1, s2⟩ := simulates HG.out mb (Int.le_of_lt ma.1) ma.2.1 hu hr
          have a0 : 0 ≤ a := Int.le_of_lt ma.1
          have aP := ma.2.1
          have b0 : 0 ≤ b := Int.le_of_lt mb.1
          have bP := mb.2.1
          have u0 := hu.1
          have uP' := hu.2.1
          have r0 : 0 ≤ r := by rw [← hr]; exact Int.emod_nonneg _ (by omega)
          have rP : r < P := by rw [← hr]; exact Int.emod_lt_of_pos _ (by omega)
          have yP := my.2.1
          have US := Lib.hid (show U64 s from us)
          have UC := Lib.hid (show U64 c from uc)
          have HA := Lib.hid ha
          have HB := Lib.hid hb
          have HU := Lib.hid (show InvS P b true u from .inl ⟨rfl, hu⟩)
          have HR := Lib.hid hr
          have HL := Lib.hid (show RetB (askS P Q G [c, s] [y, r]) (powm G s P = r * powm y c P % P) true 0 from .inl ⟨askS_ok HH.out (by simpa using ⟨cQ, sQ⟩) (by simpa using ⟨yP, rP⟩), by rw [ha, hb]; simpa using s1, rfl⟩)
          by_cases hoP : o < P
          case neg =>
            have hoP_ : P ≤ o := by omega
            clear hoP
            clear ha hb hu hr s1 s2 my ma mb
            have F_g := Lib.hid (show Boxed (w.alloc (.cells #[.int .u64 P, .int .u64 Q, .int .u64 G] 24)) (w.heap.size) P Q G from Boxed.at _ P Q G _ (w.heap.size) (by simp))
            have HBW := Lib.hid (show Below w.heap.size w (w.alloc (.cells #[.int .u64 P, .int .u64 Q, .int .u64 G] 24)) from (Below.refl _ _).alloc (by simp <;> omega) _)
            go_enter Try.func6, Try.ntmps6
            obtain ⟨x0a, x0b, x0c, -⟩ := id F_g.out
            go_wp2_with fail
            clear x0a x0b x0c
            refine (alive_yes _).mono ?_
            rintro e w1 ⟨rfl, hb1⟩
            replace F_g := Lib.hid (F_g.out.keep hb1)
            replace HBW := Lib.hid (HBW.out.trans (hb1.mono HBW.out.size))
            clear hb1
            obtain ⟨x0a, x0b, x0c, -⟩ := id F_g.out
            go_wp2_with fail
            clear x0a x0b x0c
            refine (gcheck_any P Q G 0 _ hP hQ hG HV.out).mono ?_
            rintro e w2 ⟨rfl, hb2⟩
            replace F_g := Lib.hid (F_g.out.keep hb2)
            replace HBW := Lib.hid (HBW.out.trans (hb2.mono HBW.out.size))
            clear hb2
            obtain ⟨x0a, x0b, x0c, -⟩ := id F_g.out
            go_wp2_with fail
            clear x0a x0b x0c
            refine (member_is (r := true) _ hP hQ hG hy (by simp [HM_y.out, HH.out])).mono ?_
            rintro e w3 ⟨rfl, hb3⟩
            replace F_g := Lib.hid (F_g.out.keep hb3)
            replace HBW := Lib.hid (HBW.out.trans (hb3.mono HBW.out.size))
            clear hb3
            obtain ⟨x0a, x0b, x0c, -⟩ := id F_g.out
            go_wp2_with fail
            clear x0a x0b x0c
            refine (pow_ok P Q G G s a _ HH.out hG gP US.out HA.out).mono ?_
            rintro e w4 ⟨rfl, hb4⟩
            replace F_g := Lib.hid (F_g.out.keep hb4)
            replace HBW := Lib.hid (HBW.out.trans (hb4.mono HBW.out.size))
            clear hb4
            obtain ⟨x0a, x0b, x0c, -⟩ := id F_g.out
            go_wp2_with fail
            clear x0a x0b x0c
            refine (pow_ok P Q G y c b _ HH.out hy yP UC.out HB.out).mono ?_
            rintro e w5 ⟨rfl, hb5⟩
            replace F_g := Lib.hid (F_g.out.keep hb5)
            replace HBW := Lib.hid (HBW.out.trans (hb5.mono HBW.out.size))
            clear hb5
            obtain ⟨x0a, x0b, x0c, -⟩ := id F_g.out
            go_wp2_with fail
            clear x0a x0b x0c
            refine (inv_ok P Q G b u 0 true _ HH.out b0 bP HU.out rfl).mono ?_
            rintro e w6 ⟨rfl, hb6⟩
            replace F_g := Lib.hid (F_g.out.keep hb6)
            replace HBW := Lib.hid (HBW.out.trans (hb6.mono HBW.out.size))
            clear hb6
            obtain ⟨x0a, x0b, x0c, -⟩ := id F_g.out
            go_wp2_with fail
            clear x0a x0b x0c
            refine (mul_ok P Q G a u r _ HH.out a0 aP u0 uP' HR.out).mono ?_
            rintro e w7 ⟨rfl, hb7⟩
            replace F_g := Lib.hid (F_g.out.keep hb7)
            replace HBW := Lib.hid (HBW.out.trans (hb7.mono HBW.out.size))
            clear hb7
            obtain ⟨x0a, x0b, x0c, -⟩ := id F_g.out
            go_wp2_with fail
            clear x0a x0b x0c
            refine (sholds_any _ hP hQ hG hy r0 hc hs HL.out).mono ?_
            rintro e w8 ⟨rfl, hb8⟩
            replace F_g := Lib.hid (F_g.out.keep hb8)
            replace HBW := Lib.hid (HBW.out.trans (hb8.mono HBW.out.size))
            clear hb8
            obtain ⟨x0a, x0b, x0c, -⟩ := id F_g.out
            go_wp2_with fail
            go_ret
            exact ⟨rfl, HBW.out⟩
          case pos =>
            by_cases heq : o = r
            case neg =>
              have HO := Lib.hid (show RetB (askS P Q G [c, s] [y, o]) (powm G s P = o * powm y c P % P) false 0 from .inl ⟨askS_ok HH.out (by simpa using ⟨cQ, sQ⟩) (by simpa using ⟨yP, hoP⟩), by rw [ha, hb]; simpa using fun h => heq (s2 o ho hoP h), rfl⟩)
              have hor : (o == r) = false := by simpa using heq
              clear heq
              clear ha hb hu hr s1 s2 my ma mb
              have F_g := Lib.hid (show Boxed (w.alloc (.cells #[.int .u64 P, .int .u64 Q, .int .u64 G] 24)) (w.heap.size) P Q G from Boxed.at _ P Q G _ (w.heap.size) (by simp))
              have HBW := Lib.hid (show Below w.heap.size w (w.alloc (.cells #[.int .u64 P, .int .u64 Q, .int .u64 G] 24)) from (Below.refl _ _).alloc (by simp <;> omega) _)
              go_enter Try.func6, Try.ntmps6
              obtain ⟨x0a, x0b, x0c, -⟩ := id F_g.out
              go_wp2_with fail
              clear x0a x0b x0c
              refine (alive_yes _).mono ?_
              rintro e w1 ⟨rfl, hb1⟩
              replace F_g := Lib.hid (F_g.out.keep hb1)
              replace HBW := Lib.hid (HBW.out.trans (hb1.mono HBW.out.size))
              clear hb1
              obtain ⟨x0a, x0b, x0c, -⟩ := id F_g.out
              go_wp2_with fail
              clear x0a x0b x0c
              refine (gcheck_any P Q G 0 _ hP hQ hG HV.out).mono ?_
              rintro e w2 ⟨rfl, hb2⟩
              replace F_g := Lib.hid (F_g.out.keep hb2)
              replace HBW := Lib.hid (HBW.out.trans (hb2.mono HBW.out.size))
              clear hb2
              obtain ⟨x0a, x0b, x0c, -⟩ := id F_g.out
              go_wp2_with fail
              clear x0a x0b x0c
              refine (member_is (r := true) _ hP hQ hG hy (by simp [HM_y.out, HH.out])).mono ?_
              rintro e w3 ⟨rfl, hb3⟩
              replace F_g := Lib.hid (F_g.out.keep hb3)
              replace HBW := Lib.hid (HBW.out.trans (hb3.mono HBW.out.size))
              clear hb3
              obtain ⟨x0a, x0b, x0c, -⟩ := id F_g.out
              go_wp2_with fail
              clear x0a x0b x0c
              refine (pow_ok P Q G G s a _ HH.out hG gP US.out HA.out).mono ?_
              rintro e w4 ⟨rfl, hb4⟩
              replace F_g := Lib.hid (F_g.out.keep hb4)
              replace HBW := Lib.hid (HBW.out.trans (hb4.mono HBW.out.size))
              clear hb4
              obtain ⟨x0a, x0b, x0c, -⟩ := id F_g.out
              go_wp2_with fail
              clear x0a x0b x0c
              refine (pow_ok P Q G y c b _ HH.out hy yP UC.out HB.out).mono ?_
              rintro e w5 ⟨rfl, hb5⟩
              replace F_g := Lib.hid (F_g.out.keep hb5)
              replace HBW := Lib.hid (HBW.out.trans (hb5.mono HBW.out.size))
              clear hb5
              obtain ⟨x0a, x0b, x0c, -⟩ := id F_g.out
              go_wp2_with fail
              clear x0a x0b x0c
              refine (inv_ok P Q G b u 0 true _ HH.out b0 bP HU.out rfl).mono ?_
              rintro e w6 ⟨rfl, hb6⟩
              replace F_g := Lib.hid (F_g.out.keep hb6)
              replace HBW := Lib.hid (HBW.out.trans (hb6.mono HBW.out.size))
              clear hb6
              obtain ⟨x0a, x0b, x0c, -⟩ := id F_g.out
              go_wp2_with fail
              clear x0a x0b x0c
              refine (mul_ok P Q G a u r _ HH.out a0 aP u0 uP' HR.out).mono ?_
              rintro e w7 ⟨rfl, hb7⟩
              replace F_g := Lib.hid (F_g.out.keep hb7)
              replace HBW := Lib.hid (HBW.out.trans (hb7.mono HBW.out.size))
              clear hb7
              obtain ⟨x0a, x0b, x0c, -⟩ := id F_g.out
              go_wp2_with fail
              clear x0a x0b x0c
              refine (sholds_any _ hP hQ hG hy r0 hc hs HL.out).mono ?_
              rintro e w8 ⟨rfl, hb8⟩
              replace F_g := Lib.hid (F_g.out.keep hb8)
              replace HBW := Lib.hid (HBW.out.trans (hb8.mono HBW.out.size))
              clear hb8
              obtain ⟨x0a, x0b, x0c, -⟩ := id F_g.out
              go_wp2_with fail
              clear x0a x0b x0c
              refine (sholds_any _ hP hQ hG hy ho hc hs HO.out).mono ?_
              rintro e w9 ⟨rfl, hb9⟩
              replace F_g := Lib.hid (F_g.out.keep hb9)
              replace HBW := Lib.hid (HBW.out.trans (hb9.mono HBW.out.size))
              clear hb9
              obtain ⟨x0a, x0b, x0c, -⟩ := id F_g.out
              go_wp2_with fail
              go_ret
              exact ⟨rfl, HBW.out⟩
            case pos =>
              have HO := Lib.hid (show RetB (askS P Q G [c, s] [y, o]) (powm G s P = o * powm y c P % P) true 0 from .inl ⟨askS_ok HH.out (by simpa using ⟨cQ, sQ⟩) (by simpa using ⟨yP, hoP⟩), by rw [ha, hb]; subst heq; simpa using s1, rfl⟩)
              have hor : (o == r) = true := by simpa using heq
              clear heq
              clear ha hb hu hr s1 s2 my ma mb
              have F_g := Lib.hid (show Boxed (w.alloc (.cells #[.int .u64 P, .int .u64 Q, .int .u64 G] 24)) (w.heap.size) P Q G from Boxed.at _ P Q G _ (w.heap.size) (by simp))
              have HBW := Lib.hid (show Below w.heap.size w (w.alloc (.cells #[.int .u64 P, .int .u64 Q, .int .u64 G] 24)) from (Below.refl _ _).alloc (by simp <;> omega) _)
              go_enter Try.func6, Try.ntmps6
              obtain ⟨x0a, x0b, x0c, -⟩ := id F_g.out
              go_wp2_with fail
              clear x0a x0b x0c
              refine (alive_yes _).mono ?_
              rintro e w1 ⟨rfl, hb1⟩
              replace F_g := Lib.hid (F_g.out.keep hb1)
              replace HBW := Lib.hid (HBW.out.trans (hb1.mono HBW.out.size))
              clear hb1
              obtain ⟨x0a, x0b, x0c, -⟩ := id F_g.out
              go_wp2_with fail
              clear x0a x0b x0c
              refine (gcheck_any P Q G 0 _ hP hQ hG HV.out).mono ?_
              rintro e w2 ⟨rfl, hb2⟩
              replace F_g := Lib.hid (F_g.out.keep hb2)
              replace HBW := Lib.hid (HBW.out.trans (hb2.mono HBW.out.size))
              clear hb2
              obtain ⟨x0a, x0b, x0c, -⟩ := id F_g.out
              go_wp2_with fail
              clear x0a x0b x0c
              refine (member_is (r := true) _ hP hQ hG hy (by simp [HM_y.out, HH.out])).mono ?_
              rintro e w3 ⟨rfl, hb3⟩
              replace F_g := Lib.hid (F_g.out.keep hb3)
              replace HBW := Lib.hid (HBW.out.trans (hb3.mono HBW.out.size))
              clear hb3
              obtain ⟨x0a, x0b, x0c, -⟩ := id F_g.out
              go_wp2_with fail
              clear x0a x0b x0c
              refine (pow_ok P Q G G s a _ HH.out hG gP US.out HA.out).mono ?_
              rintro e w4 ⟨rfl, hb4⟩
              replace F_g := Lib.hid (F_g.out.keep hb4)
              replace HBW := Lib.hid (HBW.out.trans (hb4.mono HBW.out.size))
              clear hb4
              obtain ⟨x0a, x0b, x0c, -⟩ := id F_g.out
              go_wp2_with fail
              clear x0a x0b x0c
              refine (pow_ok P Q G y c b _ HH.out hy yP UC.out HB.out).mono ?_
              rintro e w5 ⟨rfl, hb5⟩
              replace F_g := Lib.hid (F_g.out.keep hb5)
              replace HBW := Lib.hid (HBW.out.trans (hb5.mono HBW.out.size))
              clear hb5
              obtain ⟨x0a, x0b, x0c, -⟩ := id F_g.out
              go_wp2_with fail
              clear x0a x0b x0c
              refine (inv_ok P Q G b u 0 true _ HH.out b0 bP HU.out rfl).mono ?_
              rintro e w6 ⟨rfl, hb6⟩
              replace F_g := Lib.hid (F_g.out.keep hb6)
              replace HBW := Lib.hid (HBW.out.trans (hb6.mono HBW.out.size))
              clear hb6
              obtain ⟨x0a, x0b, x0c, -⟩ := id F_g.out
              go_wp2_with fail
              clear x0a x0b x0c
              refine (mul_ok P Q G a u r _ HH.out a0 aP u0 uP' HR.out).mono ?_
              rintro e w7 ⟨rfl, hb7⟩
              replace F_g := Lib.hid (F_g.out.keep hb7)
              replace HBW := Lib.hid (HBW.out.trans (hb7.mono HBW.out.size))
              clear hb7
              obtain ⟨x0a, x0b, x0c, -⟩ := id F_g.out
              go_wp2_with fail
              clear x0a x0b x0c
              refine (sholds_any _ hP hQ hG hy r0 hc hs HL.out).mono ?_
              rintro e w8 ⟨rfl, hb8⟩
              replace F_g := Lib.hid (F_g.out.keep hb8)
              replace HBW := Lib.hid (HBW.out.trans (hb8.mono HBW.out.size))
              clear hb8
              obtain ⟨x0a, x0b, x0c, -⟩ := id F_g.out
              go_wp2_with fail
              clear x0a x0b x0c
              refine (sholds_any _ hP hQ hG hy ho hc hs HO.out).mono ?_
              rintro e w9 ⟨rfl, hb9⟩
              replace F_g := Lib.hid (F_g.out.keep hb9)
              replace HBW := Lib.hid (HBW.out.trans (hb9.mono HBW.out.size))
              clear hb9
              obtain ⟨x0a, x0b, x0c, -⟩ := id F_g.out
              go_wp2_with fail
              go_ret
              exact ⟨rfl, HBW.out⟩


set_option maxRecDepth 100000 in
theorem lifted (os : Os) (started : os.Started) (H : Type) (enc : TypeId × Value → H) :
    ReturnsInHanded {} Try.checked os 6 .any (Rows.schnorrSimulatesSpec.pre6 enc Try.prog Try.f6 Rows.schnorrSimulatesRow.domain false) (Rows.schnorrSimulatesSpec.post enc Try.prog Try.f6 false true false false) := by
  refine returnsInHanded_of_change (C := Try.checked) own started (by kernel_rfl) Try.func6
    (ChangeSpec.witness6 (enc := enc) (C := Try.checked) false ⟨#[], #[.agg #[.int .u64 0, .int .u64 0, .int .u64 0], .int .u64 0, .int .u64 0, .int .u64 0, .int .u64 0], []⟩ 8 (by kernel_rfl) (by kernel_rfl) (by kernel_rfl) (by kernel_rfl)) ?_
  intro W base args ds gs before hval0 hW _ _
  have hval : ∀ (j : Nat) t v, Try.f6.params[j]? = some t → args[j]? = some v → Value.okWide Try.prog W .any base t v := hval0
  have hW' := hW
  obtain ⟨p, q, hA0, hV, rfl, hfz, hnd⟩ := hW
  have hA : DataW.TrodAll enc Try.prog W 0 (fun _ => true) true Try.f6.params.toList args.toList ds p := hA0
  rw [Try.params6] at hA hval
  have hK := hA
  obtain ⟨v0, vs0, d0, ds0, p0, q0, hargs, rfl, rfl, h0, r0⟩ := trodAll_cons hA
  obtain ⟨v1, vs1, d1, ds1, p1, q1, rfl, rfl, rfl, h1, r1⟩ := trodAll_cons r0
  obtain ⟨v2, vs2, d2, ds2, p2, q2, rfl, rfl, rfl, h2, r2⟩ := trodAll_cons r1
  obtain ⟨v3, vs3, d3, ds3, p3, q3, rfl, rfl, rfl, h3, r3⟩ := trodAll_cons r2
  obtain ⟨v4, vs4, d4, ds4, p4, q4, rfl, rfl, rfl, h4, r4⟩ := trodAll_cons r3
  obtain ⟨rfl, rfl, rfl⟩ := trodAll_nil r4
  obtain rfl : args = #[v0, v1, v2, v3, v4] := by cases args; simp_all
  obtain ⟨rfl, rfl⟩ := trodVars_none hV
  obtain ⟨P, Q, G, rfl, uP, uQ, uG⟩ := open_group (hval 0 24 v0 rfl rfl) h0
  obtain ⟨y, rfl, uy⟩ := open_u64 (hval 1 22 v1 rfl rfl) h1
  obtain ⟨c, rfl, uc⟩ := open_u64 (hval 2 22 v2 rfl rfl) h2
  obtain ⟨s, rfl, us⟩ := open_u64 (hval 3 22 v3 rfl rfl) h3
  obtain ⟨o, rfl, uo⟩ := open_u64 (hval 4 22 v4 rfl rfl) h4
  clear hA0 hval0
  refine (walk P Q G y c s o W uP uQ uG uy uc us uo).mono fun e W' ⟨he, bel⟩ => ?_
  subst he
  exact ⟨_, rfl, _, _, _, [], _, [], hW', trodAll_mk1 (shut_bool Try.underlying4 _), trodAll_stays laidOut (by kernel_rfl) hK bel, rfl, bel.frame _, fun h => by cases h⟩

theorem over : Rows.schnorrSimulatesRow.holds Try.pinned (OpenSpec.ofChange Rows.schnorrSimulatesSpec) :=
  OpenClaim.holds_of_wide 6 Try.f6 rfl rfl rfl rfl rfl rfl rfl ⟨rfl, rfl, rfl, rfl, rfl⟩ rfl rfl rfl rfl rfl (by kernel_rfl) Try.func6 (by kernel_rfl)
    (of_decide_eq_true (by kernel_rfl)) (by unfold Func.isWrapper; first | (rw [if_pos (by decide +kernel)]; kernel_rfl) | (rw [if_neg (by decide +kernel)]; exact ⟨rfl, rfl⟩))
    (fun os started H enc _ => lifted os started H enc)

theorem proved : Rows.SchnorrSimulatesSaid := over
#print axioms proved
end Go.Proofs.Ytanlnhjjdiaphaa.lawSimulates
