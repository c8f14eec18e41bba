/- SchnorrUnique: the statement: for every input the law returns true, and the arguments read as before. -/
import Derived.Test.YtanlnhjjdiaphaaDoorCard
import Derived.Test.YtanlnhjjdiaphaaDoorAux31
import Derived.Test.YtanlnhjjdiaphaaDoorLaw31
namespace Go.Proofs.YtanlnhjjdiaphaaDoor.lawUnique
open Go Sha Go.ChangeShapes Go.WideShapes Go.ChangeAt Go.RowKit Num
set_option linter.unusedSimpArgs false
set_option linter.unusedVariables false

set_option maxRecDepth 100000 in
set_option maxHeartbeats 12800000 in
theorem walk (P Q G y : Int) (tx : Option Addr) (n cp : Nat) (T : List Int) (R S ot : Int) (w : World) (uP : U64 P) (uQ : U64 Q) (uG : U64 G) (uy : U64 y) (ht : ShI .u8 w tx n T) (hb : ByteL T) (hz : tx = none → cp = 0) (hnc : n ≤ cp) (uR : U64 R) (uS : U64 S) (uo : U64 ot) (hT : Tabs w) :
    Calls Tryd.prog 4 #[.agg #[.int .u64 P, .int .u64 Q, .int .u64 G], .int .u64 y, .slice tx n cp, .agg #[.int .u64 R, .int .u64 S], .int .u64 ot] w fun e w' => e = .returned (.bool true) ∧ Below w.heap.size w w' := by
  have hP := uP.1
  have hQ := uQ.1
  have hG := uG.1
  have hS0 := uS.1
  have hO0 := uo.1
  have HT := Lib.hid (show Txt w tx n T from ⟨hT, ht, hb⟩)
  clear ht hb hT hz hnc
  have UY := Lib.hid uy
  have UR := Lib.hid uR
  clear uy uR
  by_cases hv : Valid P Q G
  case neg =>
    have HV := Lib.hid (show ValidS P Q G 300 from .inr ⟨hv, rfl⟩)
    clear hv
    have F_g := Lib.hid (show Boxed ((w.alloc (.cells #[.int .u64 P, .int .u64 Q, .int .u64 G] 24)).alloc (.cells #[.int .u64 R, .int .u64 S] 27)) (w.heap.size) P Q G from (Boxed.at _ P Q G _ (w.heap.size) (by simp)).alloc _)
    have F_c := Lib.hid (show Pair ((w.alloc (.cells #[.int .u64 P, .int .u64 Q, .int .u64 G] 24)).alloc (.cells #[.int .u64 R, .int .u64 S] 27)) (w.heap.size + 1) R S from Pair.at _ R S _ (w.heap.size + 1) (by simp))
    have HBW := Lib.hid (show Below w.heap.size w ((w.alloc (.cells #[.int .u64 P, .int .u64 Q, .int .u64 G] 24)).alloc (.cells #[.int .u64 R, .int .u64 S] 27)) from ((Below.refl _ _).alloc (by simp <;> omega) _).alloc (by simp <;> omega) _)
    go_enter Tryd.func4, Tryd.ntmps4
    obtain ⟨x0a, x0b, x0c, -⟩ := id F_g.out
    obtain ⟨x1a, x1b, x1c, x1d, -⟩ := id F_c.out
    go_wp2_with fail
    clear x0a x0b x0c x1a x1b x1c x1d
    refine (alive_yes _).mono ?_
    rintro e w1 ⟨rfl, hb1⟩
    replace F_g := Lib.hid (F_g.out.keep hb1)
    replace F_c := Lib.hid (F_c.out.keep hb1)
    replace HBW := Lib.hid (HBW.out.trans (hb1.mono HBW.out.size))
    clear hb1
    obtain ⟨x0a, x0b, x0c, -⟩ := id F_g.out
    obtain ⟨x1a, x1b, x1c, x1d, -⟩ := id F_c.out
    go_wp2_with fail
    clear x0a x0b x0c x1a x1b x1c x1d
    refine (gcheck_any P Q G 300 _ hP hQ hG HV.out).mono ?_
    rintro e w2 ⟨rfl, hb2⟩
    replace F_g := Lib.hid (F_g.out.keep hb2)
    replace F_c := Lib.hid (F_c.out.keep hb2)
    replace HBW := Lib.hid (HBW.out.trans (hb2.mono HBW.out.size))
    clear hb2
    obtain ⟨x0a, x0b, x0c, -⟩ := id F_g.out
    obtain ⟨x1a, x1b, x1c, x1d, -⟩ := id F_c.out
    go_wp2_with fail
    go_ret
    exact ⟨rfl, HBW.out⟩
  case pos =>
    have HV := Lib.hid (show ValidS P Q G 0 from .inl ⟨hv, rfl⟩)
    have HG := Lib.hid hv.grp
    have HH := Lib.hid hv.has
    obtain ⟨p5, p3, _, pq, g2, gP⟩ := id hv.1
    have q3 : Q < 1073741824 := by omega
    clear hv pq
    by_cases hn : n ≤ 8100
    case neg =>
      have hd : decide ((8100 : Int) < (n : Int)) = true := by simp; omega
      have hdn : decide (8100 < n) = true := by simp; omega
      clear hn
      have F_g := Lib.hid (show Boxed ((w.alloc (.cells #[.int .u64 P, .int .u64 Q, .int .u64 G] 24)).alloc (.cells #[.int .u64 R, .int .u64 S] 27)) (w.heap.size) P Q G from (Boxed.at _ P Q G _ (w.heap.size) (by simp)).alloc _)
      have F_c := Lib.hid (show Pair ((w.alloc (.cells #[.int .u64 P, .int .u64 Q, .int .u64 G] 24)).alloc (.cells #[.int .u64 R, .int .u64 S] 27)) (w.heap.size + 1) R S from Pair.at _ R S _ (w.heap.size + 1) (by simp))
      have HBW := Lib.hid (show Below w.heap.size w ((w.alloc (.cells #[.int .u64 P, .int .u64 Q, .int .u64 G] 24)).alloc (.cells #[.int .u64 R, .int .u64 S] 27)) from ((Below.refl _ _).alloc (by simp <;> omega) _).alloc (by simp <;> omega) _)
      go_enter Tryd.func4, Tryd.ntmps4
      obtain ⟨x0a, x0b, x0c, -⟩ := id F_g.out
      obtain ⟨x1a, x1b, x1c, x1d, -⟩ := id F_c.out
      go_wp2_with fail
      clear x0a x0b x0c x1a x1b x1c x1d
      refine (alive_yes _).mono ?_
      rintro e w1 ⟨rfl, hb1⟩
      replace F_g := Lib.hid (F_g.out.keep hb1)
      replace F_c := Lib.hid (F_c.out.keep hb1)
      replace HBW := Lib.hid (HBW.out.trans (hb1.mono HBW.out.size))
      clear hb1
      obtain ⟨x0a, x0b, x0c, -⟩ := id F_g.out
      obtain ⟨x1a, x1b, x1c, x1d, -⟩ := id F_c.out
      go_wp2_with fail
      clear x0a x0b x0c x1a x1b x1c x1d
      refine (gcheck_any P Q G 0 _ hP hQ hG HV.out).mono ?_
      rintro e w2 ⟨rfl, hb2⟩
      replace F_g := Lib.hid (F_g.out.keep hb2)
      replace F_c := Lib.hid (F_c.out.keep hb2)
      replace HBW := Lib.hid (HBW.out.trans (hb2.mono HBW.out.size))
      clear hb2
      obtain ⟨x0a, x0b, x0c, -⟩ := id F_g.out
      obtain ⟨x1a, x1b, x1c, x1d, -⟩ := id F_c.out
      go_wp2_with fail
      clear x0a x0b x0c x1a x1b x1c x1d
      refine (rLong_any _).mono ?_
      rintro e w3 ⟨rfl, rfl⟩
      obtain ⟨x0a, x0b, x0c, -⟩ := id F_g.out
      obtain ⟨x1a, x1b, x1c, x1d, -⟩ := id F_c.out
      go_wp2_with fail
      go_ret
      exact ⟨rfl, HBW.out⟩
    case pos =>
      have hd : decide ((8100 : Int) < (n : Int)) = false := by simp; omega
      have hdn : decide (8100 < n) = false := by simp; omega
      obtain ⟨one, e1, h1⟩ := RetB.exists (lgS (askS P Q G [S] [y, R]) n) (vfP P Q G y R S T)
      obtain ⟨two, e2, h2⟩ := RetB.exists (lgS (askS P Q G [ot] [y, R]) n) (vfP P Q G y R ot T)
      by_cases he1 : e1 = 0
      case neg =>
        have hn1 : (e1 != 0) = true := by simpa using he1
        clear he1
        have H1 := Lib.hid h1
        have H2 := Lib.hid h2
        clear h1 h2
        have F_g := Lib.hid (show Boxed ((w.alloc (.cells #[.int .u64 P, .int .u64 Q, .int .u64 G] 24)).alloc (.cells #[.int .u64 R, .int .u64 S] 27)) (w.heap.size) P Q G from (Boxed.at _ P Q G _ (w.heap.size) (by simp)).alloc _)
        have F_c := Lib.hid (show Pair ((w.alloc (.cells #[.int .u64 P, .int .u64 Q, .int .u64 G] 24)).alloc (.cells #[.int .u64 R, .int .u64 S] 27)) (w.heap.size + 1) R S from Pair.at _ R S _ (w.heap.size + 1) (by simp))
        have HBW := Lib.hid (show Below w.heap.size w ((w.alloc (.cells #[.int .u64 P, .int .u64 Q, .int .u64 G] 24)).alloc (.cells #[.int .u64 R, .int .u64 S] 27)) from ((Below.refl _ _).alloc (by simp <;> omega) _).alloc (by simp <;> omega) _)
        go_enter Tryd.func4, Tryd.ntmps4
        obtain ⟨x0a, x0b, x0c, -⟩ := id F_g.out
        obtain ⟨x1a, x1b, x1c, x1d, -⟩ := id F_c.out
        go_wp2_with fail
        clear x0a x0b x0c x1a x1b x1c x1d
        refine (alive_yes _).mono ?_
        rintro e w1 ⟨rfl, hb1⟩
        replace F_g := Lib.hid (F_g.out.keep hb1)
        replace F_c := Lib.hid (F_c.out.keep hb1)
        replace HBW := Lib.hid (HBW.out.trans (hb1.mono HBW.out.size))
        clear hb1
        obtain ⟨x0a, x0b, x0c, -⟩ := id F_g.out
        obtain ⟨x1a, x1b, x1c, x1d, -⟩ := id F_c.out
        go_wp2_with fail
        clear x0a x0b x0c x1a x1b x1c x1d
        refine (gcheck_any P Q G 0 _ hP hQ hG HV.out).mono ?_
        rintro e w2 ⟨rfl, hb2⟩
        replace F_g := Lib.hid (F_g.out.keep hb2)
        replace F_c := Lib.hid (F_c.out.keep hb2)
        replace HBW := Lib.hid (HBW.out.trans (hb2.mono HBW.out.size))
        clear hb2
        obtain ⟨x0a, x0b, x0c, -⟩ := id F_g.out
        obtain ⟨x1a, x1b, x1c, x1d, -⟩ := id F_c.out
        go_wp2_with fail
        clear x0a x0b x0c x1a x1b x1c x1d
        refine (rLong_any _).mono ?_
        rintro e w3 ⟨rfl, rfl⟩
        obtain ⟨x0a, x0b, x0c, -⟩ := id F_g.out
        obtain ⟨x1a, x1b, x1c, x1d, -⟩ := id F_c.out
        go_wp2_with fail
        clear x0a x0b x0c x1a x1b x1c x1d
        refine (sverify_any _ (HT.out.keep HBW.out) hP hQ hG UY.out UR.out hS0 hn H1.out).mono ?_
        rintro e w4 ⟨rfl, hb4⟩
        replace F_g := Lib.hid (F_g.out.keep hb4)
        replace F_c := Lib.hid (F_c.out.keep hb4)
        replace HBW := Lib.hid (HBW.out.trans (hb4.mono HBW.out.size))
        clear hb4
        obtain ⟨x0a, x0b, x0c, -⟩ := id F_g.out
        obtain ⟨x1a, x1b, x1c, x1d, -⟩ := id F_c.out
        go_wp2_with fail
        clear x0a x0b x0c x1a x1b x1c x1d
        refine (sverify_any _ (HT.out.keep HBW.out) hP hQ hG UY.out UR.out hO0 hn H2.out).mono ?_
        rintro e w5 ⟨rfl, hb5⟩
        replace F_g := Lib.hid (F_g.out.keep hb5)
        replace F_c := Lib.hid (F_c.out.keep hb5)
        replace HBW := Lib.hid (HBW.out.trans (hb5.mono HBW.out.size))
        clear hb5
        obtain ⟨x0a, x0b, x0c, -⟩ := id F_g.out
        obtain ⟨x1a, x1b, x1c, x1d, -⟩ := id F_c.out
        go_wp2_with fail
        go_ret
        exact ⟨rfl, HBW.out⟩
      case pos =>
        subst he1
        by_cases he2 : e2 = 0
        case neg =>
          have hn1 : (e2 != 0) = true := by simpa using he2
          clear he2
          have H1 := Lib.hid h1
          have H2 := Lib.hid h2
          clear h1 h2
          have F_g := Lib.hid (show Boxed ((w.alloc (.cells #[.int .u64 P, .int .u64 Q, .int .u64 G] 24)).alloc (.cells #[.int .u64 R, .int .u64 S] 27)) (w.heap.size) P Q G from (Boxed.at _ P Q G _ (w.heap.size) (by simp)).alloc _)
          have F_c := Lib.hid (show Pair ((w.alloc (.cells #[.int .u64 P, .int .u64 Q, .int .u64 G] 24)).alloc (.cells #[.int .u64 R, .int .u64 S] 27)) (w.heap.size + 1) R S from Pair.at _ R S _ (w.heap.size + 1) (by simp))
          have HBW := Lib.hid (show Below w.heap.size w ((w.alloc (.cells #[.int .u64 P, .int .u64 Q, .int .u64 G] 24)).alloc (.cells #[.int .u64 R, .int .u64 S] 27)) from ((Below.refl _ _).alloc (by simp <;> omega) _).alloc (by simp <;> omega) _)
          go_enter Tryd.func4, Tryd.ntmps4
          obtain ⟨x0a, x0b, x0c, -⟩ := id F_g.out
          obtain ⟨x1a, x1b, x1c, x1d, -⟩ := id F_c.out
          go_wp2_with fail
          clear x0a x0b x0c x1a x1b x1c x1d
          refine (alive_yes _).mono ?_
          rintro e w1 ⟨rfl, hb1⟩
          replace F_g := Lib.hid (F_g.out.keep hb1)
          replace F_c := Lib.hid (F_c.out.keep hb1)
          replace HBW := Lib.hid (HBW.out.trans (hb1.mono HBW.out.size))
          clear hb1
          obtain ⟨x0a, x0b, x0c, -⟩ := id F_g.out
          obtain ⟨x1a, x1b, x1c, x1d, -⟩ := id F_c.out
          go_wp2_with fail
          clear x0a x0b x0c x1a x1b x1c x1d
          refine (gcheck_any P Q G 0 _ hP hQ hG HV.out).mono ?_
          rintro e w2 ⟨rfl, hb2⟩
          replace F_g := Lib.hid (F_g.out.keep hb2)
          replace F_c := Lib.hid (F_c.out.keep hb2)
          replace HBW := Lib.hid (HBW.out.trans (hb2.mono HBW.out.size))
          clear hb2
          obtain ⟨x0a, x0b, x0c, -⟩ := id F_g.out
          obtain ⟨x1a, x1b, x1c, x1d, -⟩ := id F_c.out
          go_wp2_with fail
          clear x0a x0b x0c x1a x1b x1c x1d
          refine (rLong_any _).mono ?_
          rintro e w3 ⟨rfl, rfl⟩
          obtain ⟨x0a, x0b, x0c, -⟩ := id F_g.out
          obtain ⟨x1a, x1b, x1c, x1d, -⟩ := id F_c.out
          go_wp2_with fail
          clear x0a x0b x0c x1a x1b x1c x1d
          refine (sverify_any _ (HT.out.keep HBW.out) hP hQ hG UY.out UR.out hS0 hn H1.out).mono ?_
          rintro e w4 ⟨rfl, hb4⟩
          replace F_g := Lib.hid (F_g.out.keep hb4)
          replace F_c := Lib.hid (F_c.out.keep hb4)
          replace HBW := Lib.hid (HBW.out.trans (hb4.mono HBW.out.size))
          clear hb4
          obtain ⟨x0a, x0b, x0c, -⟩ := id F_g.out
          obtain ⟨x1a, x1b, x1c, x1d, -⟩ := id F_c.out
          go_wp2_with fail
          clear x0a x0b x0c x1a x1b x1c x1d
          refine (sverify_any _ (HT.out.keep HBW.out) hP hQ hG UY.out UR.out hO0 hn H2.out).mono ?_
          rintro e w5 ⟨rfl, hb5⟩
          replace F_g := Lib.hid (F_g.out.keep hb5)
          replace F_c := Lib.hid (F_c.out.keep hb5)
          replace HBW := Lib.hid (HBW.out.trans (hb5.mono HBW.out.size))
          clear hb5
          obtain ⟨x0a, x0b, x0c, -⟩ := id F_g.out
          obtain ⟨x1a, x1b, x1c, x1d, -⟩ := id F_c.out
          go_wp2_with fail
          go_ret
          exact ⟨rfl, HBW.out⟩
        case pos =>
          subst he2
          by_cases hone : one = true
          case neg =>
            have hb_ : one = false := by simpa using hone
            subst hb_
            clear hone
            have H1 := Lib.hid h1
            have H2 := Lib.hid h2
            clear h1 h2
            have F_g := Lib.hid (show Boxed ((w.alloc (.cells #[.int .u64 P, .int .u64 Q, .int .u64 G] 24)).alloc (.cells #[.int .u64 R, .int .u64 S] 27)) (w.heap.size) P Q G from (Boxed.at _ P Q G _ (w.heap.size) (by simp)).alloc _)
            have F_c := Lib.hid (show Pair ((w.alloc (.cells #[.int .u64 P, .int .u64 Q, .int .u64 G] 24)).alloc (.cells #[.int .u64 R, .int .u64 S] 27)) (w.heap.size + 1) R S from Pair.at _ R S _ (w.heap.size + 1) (by simp))
            have HBW := Lib.hid (show Below w.heap.size w ((w.alloc (.cells #[.int .u64 P, .int .u64 Q, .int .u64 G] 24)).alloc (.cells #[.int .u64 R, .int .u64 S] 27)) from ((Below.refl _ _).alloc (by simp <;> omega) _).alloc (by simp <;> omega) _)
            go_enter Tryd.func4, Tryd.ntmps4
            obtain ⟨x0a, x0b, x0c, -⟩ := id F_g.out
            obtain ⟨x1a, x1b, x1c, x1d, -⟩ := id F_c.out
            go_wp2_with fail
            clear x0a x0b x0c x1a x1b x1c x1d
            refine (alive_yes _).mono ?_
            rintro e w1 ⟨rfl, hb1⟩
            replace F_g := Lib.hid (F_g.out.keep hb1)
            replace F_c := Lib.hid (F_c.out.keep hb1)
            replace HBW := Lib.hid (HBW.out.trans (hb1.mono HBW.out.size))
            clear hb1
            obtain ⟨x0a, x0b, x0c, -⟩ := id F_g.out
            obtain ⟨x1a, x1b, x1c, x1d, -⟩ := id F_c.out
            go_wp2_with fail
            clear x0a x0b x0c x1a x1b x1c x1d
            refine (gcheck_any P Q G 0 _ hP hQ hG HV.out).mono ?_
            rintro e w2 ⟨rfl, hb2⟩
            replace F_g := Lib.hid (F_g.out.keep hb2)
            replace F_c := Lib.hid (F_c.out.keep hb2)
            replace HBW := Lib.hid (HBW.out.trans (hb2.mono HBW.out.size))
            clear hb2
            obtain ⟨x0a, x0b, x0c, -⟩ := id F_g.out
            obtain ⟨x1a, x1b, x1c, x1d, -⟩ := id F_c.out
            go_wp2_with fail
            clear x0a x0b x0c x1a x1b x1c x1d
            refine (rLong_any _).mono ?_
            rintro e w3 ⟨rfl, rfl⟩
            obtain ⟨x0a, x0b, x0c, -⟩ := id F_g.out
            obtain ⟨x1a, x1b, x1c, x1d, -⟩ := id F_c.out
            go_wp2_with fail
            clear x0a x0b x0c x1a x1b x1c x1d
            refine (sverify_any _ (HT.out.keep HBW.out) hP hQ hG UY.out UR.out hS0 hn H1.out).mono ?_
            rintro e w4 ⟨rfl, hb4⟩
            replace F_g := Lib.hid (F_g.out.keep hb4)
            replace F_c := Lib.hid (F_c.out.keep hb4)
            replace HBW := Lib.hid (HBW.out.trans (hb4.mono HBW.out.size))
            clear hb4
            obtain ⟨x0a, x0b, x0c, -⟩ := id F_g.out
            obtain ⟨x1a, x1b, x1c, x1d, -⟩ := id F_c.out
            go_wp2_with fail
            clear x0a x0b x0c x1a x1b x1c x1d
            refine (sverify_any _ (HT.out.keep HBW.out) hP hQ hG UY.out UR.out hO0 hn H2.out).mono ?_
            rintro e w5 ⟨rfl, hb5⟩
            replace F_g := Lib.hid (F_g.out.keep hb5)
            replace F_c := Lib.hid (F_c.out.keep hb5)
            replace HBW := Lib.hid (HBW.out.trans (hb5.mono HBW.out.size))
            clear hb5
            obtain ⟨x0a, x0b, x0c, -⟩ := id F_g.out
            obtain ⟨x1a, x1b, x1c, x1d, -⟩ := id F_c.out
            go_wp2_with fail
            go_ret
            exact ⟨rfl, HBW.out⟩
          case pos =>
            subst hone
            have hos : (ot == S) = two := by
              obtain ⟨a1, b1⟩ : lgS (askS P Q G [S] [y, R]) n = 0 ∧ vfP P Q G y R S T := by
                rcases h1 with ⟨h, k, -⟩ | ⟨-, h, -⟩
                · exact ⟨h, k.1 rfl⟩
                · cases h
              obtain ⟨a2, b2⟩ : lgS (askS P Q G [ot] [y, R]) n = 0 ∧ (two = true ↔ vfP P Q G y R ot T) := by
                rcases h2 with ⟨h, k, -⟩ | ⟨h, -, h3⟩
                · exact ⟨h, k⟩
                · exact absurd h3.symm h
              have SQ := (askS_zero (lgS_zero a1).1).2.1 S (by simp)
              have OQ := (askS_zero (lgS_zero a2).1).2.1 ot (by simp)
              rw [Bool.eq_iff_iff, b2, beq_iff_eq]
              constructor
              · rintro rfl; exact b1
              · intro h
                exact HG.out.inj HG.out.mem_g HG.out.g_ne hO0 OQ hS0 SQ (h.2.2.trans b1.2.2.symm)
            have H1 := Lib.hid h1
            have H2 := Lib.hid h2
            clear h1 h2
            have F_g := Lib.hid (show Boxed ((w.alloc (.cells #[.int .u64 P, .int .u64 Q, .int .u64 G] 24)).alloc (.cells #[.int .u64 R, .int .u64 S] 27)) (w.heap.size) P Q G from (Boxed.at _ P Q G _ (w.heap.size) (by simp)).alloc _)
            have F_c := Lib.hid (show Pair ((w.alloc (.cells #[.int .u64 P, .int .u64 Q, .int .u64 G] 24)).alloc (.cells #[.int .u64 R, .int .u64 S] 27)) (w.heap.size + 1) R S from Pair.at _ R S _ (w.heap.size + 1) (by simp))
            have HBW := Lib.hid (show Below w.heap.size w ((w.alloc (.cells #[.int .u64 P, .int .u64 Q, .int .u64 G] 24)).alloc (.cells #[.int .u64 R, .int .u64 S] 27)) from ((Below.refl _ _).alloc (by simp <;> omega) _).alloc (by simp <;> omega) _)
            go_enter Tryd.func4, Tryd.ntmps4
            obtain ⟨x0a, x0b, x0c, -⟩ := id F_g.out
            obtain ⟨x1a, x1b, x1c, x1d, -⟩ := id F_c.out
            go_wp2_with fail
            clear x0a x0b x0c x1a x1b x1c x1d
            refine (alive_yes _).mono ?_
            rintro e w1 ⟨rfl, hb1⟩
            replace F_g := Lib.hid (F_g.out.keep hb1)
            replace F_c := Lib.hid (F_c.out.keep hb1)
            replace HBW := Lib.hid (HBW.out.trans (hb1.mono HBW.out.size))
            clear hb1
            obtain ⟨x0a, x0b, x0c, -⟩ := id F_g.out
            obtain ⟨x1a, x1b, x1c, x1d, -⟩ := id F_c.out
            go_wp2_with fail
            clear x0a x0b x0c x1a x1b x1c x1d
            refine (gcheck_any P Q G 0 _ hP hQ hG HV.out).mono ?_
            rintro e w2 ⟨rfl, hb2⟩
            replace F_g := Lib.hid (F_g.out.keep hb2)
            replace F_c := Lib.hid (F_c.out.keep hb2)
            replace HBW := Lib.hid (HBW.out.trans (hb2.mono HBW.out.size))
            clear hb2
            obtain ⟨x0a, x0b, x0c, -⟩ := id F_g.out
            obtain ⟨x1a, x1b, x1c, x1d, -⟩ := id F_c.out
            go_wp2_with fail
            clear x0a x0b x0c x1a x1b x1c x1d
            refine (rLong_any _).mono ?_
            rintro e w3 ⟨rfl, rfl⟩
            obtain ⟨x0a, x0b, x0c, -⟩ := id F_g.out
            obtain ⟨x1a, x1b, x1c, x1d, -⟩ := id F_c.out
            go_wp2_with fail
            clear x0a x0b x0c x1a x1b x1c x1d
            refine (sverify_any _ (HT.out.keep HBW.out) hP hQ hG UY.out UR.out hS0 hn H1.out).mono ?_
            rintro e w4 ⟨rfl, hb4⟩
            replace F_g := Lib.hid (F_g.out.keep hb4)
            replace F_c := Lib.hid (F_c.out.keep hb4)
            replace HBW := Lib.hid (HBW.out.trans (hb4.mono HBW.out.size))
            clear hb4
            obtain ⟨x0a, x0b, x0c, -⟩ := id F_g.out
            obtain ⟨x1a, x1b, x1c, x1d, -⟩ := id F_c.out
            go_wp2_with fail
            clear x0a x0b x0c x1a x1b x1c x1d
            refine (sverify_any _ (HT.out.keep HBW.out) hP hQ hG UY.out UR.out hO0 hn H2.out).mono ?_
            rintro e w5 ⟨rfl, hb5⟩
            replace F_g := Lib.hid (F_g.out.keep hb5)
            replace F_c := Lib.hid (F_c.out.keep hb5)
            replace HBW := Lib.hid (HBW.out.trans (hb5.mono HBW.out.size))
            clear hb5
            obtain ⟨x0a, x0b, x0c, -⟩ := id F_g.out
            obtain ⟨x1a, x1b, x1c, x1d, -⟩ := id F_c.out
            go_wp2_with fail
            go_ret
            exact ⟨rfl, HBW.out⟩


set_option maxRecDepth 100000 in
theorem lifted (os : Os) (started : os.Started) (H : Type) (enc : TypeId × Value → H) :
    ReturnsInHanded {} Tryd.checked os 4 .any (fun w args => (Rows.schnorrUniqueSpec.pre enc Tryd.prog Tryd.f4 [] false w args ∧ laidMetH Tryd.prog laidL w) ∧ sizedMet enc Tryd.prog Tryd.f4 (OpenSpec.ofChange Rows.schnorrUniqueSpec) false w args) (Rows.schnorrUniqueSpec.post enc Tryd.prog Tryd.f4 false true false false) := by
  refine returnsInHanded_of_change_and (C := Tryd.checked) (X := fun w _ => laidMetH Tryd.prog laidL w) (fun _ _ _ hh h => h.of_heap hh) own started (by kernel_rfl) Tryd.func4
    (ChangeSpec.witness_shaped (enc := enc) (C := Tryd.checked) (os := os) (X := fun w _ => laidMetH Tryd.prog laidL w) false (World.doorLaid Tryd.prog 19 os) #[.agg #[.int .u64 0, .int .u64 0, .int .u64 0], .int .u64 0, .slice none 0 0, .agg #[.int .u64 0, .int .u64 0], .int .u64 0] 8 rfl (World.shaped_of_RefB (by kernel_rfl) (by kernel_rfl)) (by kernel_rfl) (by kernel_rfl) (by kernel_rfl) (door_met os _)) ?_
  intro W base args ds gs before hval0 hW _ _ hL _
  have hT := tabs_of_laid hL
  clear hL
  have hval : ∀ (j : Nat) t v, Tryd.f4.params[j]? = some t → args[j]? = some v → Value.okWide Tryd.prog W .any base t v := hval0
  have hW' := hW
  obtain ⟨p, q, hA0, hV, rfl, hfz, hnd⟩ := hW
  have hA : DataW.TrodAll enc Tryd.prog W 0 (fun _ => true) true Tryd.f4.params.toList args.toList ds p := hA0
  rw [Tryd.params4] at hA hval
  have hK := hA
  obtain ⟨v0, vs0, d0, ds0, p0, q0, hargs, rfl, rfl, h0, r0⟩ := trodAll_cons hA
  obtain ⟨v1, vs1, d1, ds1, p1, q1, rfl, rfl, rfl, h1, r1⟩ := trodAll_cons r0
  obtain ⟨v2, vs2, d2, ds2, p2, q2, rfl, rfl, rfl, h2, r2⟩ := trodAll_cons r1
  obtain ⟨v3, vs3, d3, ds3, p3, q3, rfl, rfl, rfl, h3, r3⟩ := trodAll_cons r2
  obtain ⟨v4, vs4, d4, ds4, p4, q4, rfl, rfl, rfl, h4, r4⟩ := trodAll_cons r3
  obtain ⟨rfl, rfl, rfl⟩ := trodAll_nil r4
  obtain rfl : args = #[v0, v1, v2, v3, v4] := by cases args; simp_all
  obtain ⟨rfl, rfl⟩ := trodVars_none hV
  obtain ⟨P, Q, G, rfl, uP, uQ, uG⟩ := open_group (hval 0 24 v0 rfl rfl) h0
  obtain ⟨y, rfl, uy⟩ := open_u64 (hval 1 22 v1 rfl rfl) h1
  obtain ⟨tx, n, cp, T, rfl, ht, hb, hz, hnc⟩ := open_bytes (hval 2 25 v2 rfl rfl) h2
  obtain ⟨R, S, rfl, uR, uS⟩ := open_sig (hval 3 27 v3 rfl rfl) h3
  obtain ⟨ot, rfl, uo⟩ := open_u64 (hval 4 22 v4 rfl rfl) h4
  clear hA0 hval0
  refine (walk P Q G y tx n cp T R S ot W uP uQ uG uy ht hb hz hnc uR uS uo hT).mono fun e W' ⟨he, bel⟩ => ?_
  subst he
  exact ⟨_, rfl, _, _, _, [], _, [], hW', trodAll_mk1 (shut_bool Tryd.underlying4 _), trodAll_stays laidOut (by kernel_rfl) hK bel, rfl, bel.frame _, fun h => by cases h⟩

theorem over : Rows.schnorrUniqueRow.holds Tryd.pinned (OpenSpec.ofChange Rows.schnorrUniqueSpec) :=
  OpenClaim.holds_of_wide 4 Tryd.f4 rfl rfl rfl rfl rfl rfl rfl ⟨rfl, rfl, rfl, rfl, rfl⟩ rfl rfl rfl rfl rfl (by kernel_rfl) Tryd.func4 (by kernel_rfl)
    (of_decide_eq_true (by kernel_rfl)) (by unfold Func.isWrapper; first | (rw [if_pos (by decide +kernel)]; kernel_rfl) | (rw [if_neg (by decide +kernel)]; exact ⟨rfl, rfl⟩))
    (fun os started H enc _ => lifted os started H enc)

theorem proved : Rows.SchnorrUniqueCardSaid :=
  Claim7.holds_tied_plain_at .later [] [.data, .data] true (true, "1347232924b66631dc1a67d5bf2d8748b67dbe22a221f01b9e1f88b90c98754e") false
    over (fun _ h => by cases h) (by kernel_rfl) (fun _ h => by cases h) schnorrUnique_row_tie rfl ⟨rfl, rfl⟩ (by kernel_rfl) rfl
    (fun f fn hf hfn => by
      obtain rfl : f = 4 := Option.some.inj ((show Tryd.prog.funcNamed "suffrage/suffragelaw31.SchnorrUnique" = some 4 by kernel_rfl).symm.trans hf) |>.symm
      obtain rfl : fn = Tryd.f4 := (Option.some.inj (Tryd.func4.symm.trans hfn)).symm
      exact ⟨by kernel_rfl, fun j t ht => by
        rw [Tryd.params4] at ht
        have hm : t ∈ ([24, 22, 25, 27, 22] : List TypeId) := by simpa using Array.mem_of_getElem? ht
        have hall : (([24, 22, 25, 27, 22] : List TypeId).all fun u => !Tryd.prog.wantsStandIn u) = true := by kernel_rfl
        exact (show Tryd.prog.wantsStandIn t = false by simpa using List.all_eq_true.1 hall t hm)⟩)
    (by kernel_rfl)
#print axioms proved
end Go.Proofs.YtanlnhjjdiaphaaDoor.lawUnique
