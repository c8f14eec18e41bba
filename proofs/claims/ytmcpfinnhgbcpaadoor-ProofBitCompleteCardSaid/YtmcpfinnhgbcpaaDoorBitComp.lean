/- ProofBitComplete: the statement: for every input the law returns true, and the arguments read as before. -/
import Derived.Test.YtmcpfinnhgbcpaaDoorCardP
import Derived.Test.YtmcpfinnhgbcpaaDoorAux33
import Derived.Test.YtmcpfinnhgbcpaaDoorLaw31
import Derived.Test.YtmcpfinnhgbcpaaDoorBitC
namespace Go.Proofs.YtmcpfinnhgbcpaaDoor.lawBitComp
open Go Sha Go.ChangeShapes Go.WideShapes Go.ChangeAt Go.RowKit Num
set_option linter.unusedSimpArgs false
set_option linter.unusedVariables false

set_option maxRecDepth 100000 in
theorem open_boolT {H : Type} {enc : TypeId × Value → H} {w : World} {base : Nat} {spare : Nat → Bool} {held : Bool} {r : Reach} {b0 : Nat} {v : Value} {d : DataW H} {p : List MemPlace} (hv : Value.okWide Tryd.prog w r b0 4 v) (h : DataW.Trod enc Tryd.prog w base spare held 4 v d p) : ∃ b, v = .bool b ∧ True := by
  obtain ⟨x, e, -⟩ := open_bool Tryd.underlying4 hv h
  exact ⟨x, e, trivial⟩
set_option maxRecDepth 100000 in
set_option maxHeartbeats 25600000 in
theorem walk (P Q G y : Int) (one : Bool) (r k c z : Int) (tx : Option Addr) (n cp : Nat) (T : List Int) (w : World) (uP : U64 P) (uQ : U64 Q) (uG : U64 G) (uy : U64 y) (u1 : True) (ur : U64 r) (uk : U64 k) (uc : U64 c) (uz : U64 z) (ht : ShI .u8 w tx n T) (hb : ByteL T) (hz_ : tx = none → cp = 0) (hnc : n ≤ cp) (hT : Tabs w) :
    Calls Tryd.prog 7 #[.agg #[.int .u64 P, .int .u64 Q, .int .u64 G], .int .u64 y, .bool one, .int .u64 r, .int .u64 k, .int .u64 c, .int .u64 z, .slice tx n cp] w fun e w' => e = .returned (.bool true) ∧ Below w.heap.size w w' := by
  have hP := uP.1
  have hQ := uQ.1
  have hG := uG.1
  have hy := uy.1
  have hr := ur.1
  have hk := uk.1
  have hc := uc.1
  have hz := uz.1
  clear u1
  have HT := Lib.hid (show Txt w tx n T from ⟨hT, ht, hb⟩)
  clear ht hb hT hz_ hnc
  by_cases hv : Valid P Q G
  case neg =>
    have HV := Lib.hid (show ValidS P Q G 300 from .inr ⟨hv, rfl⟩)
    clear hv
    have F_g := Lib.hid (show Boxed (w.alloc (.cells #[.int .u64 P, .int .u64 Q, .int .u64 G] 24)) (w.heap.size) P Q G from Boxed.at _ P Q G _ (w.heap.size) (by simp))
    have HBW := Lib.hid (show Below w.heap.size w (w.alloc (.cells #[.int .u64 P, .int .u64 Q, .int .u64 G] 24)) from (Below.refl _ _).alloc (by simp <;> omega) _)
    go_enter Tryd.func7, Tryd.ntmps7
    obtain ⟨x0a, x0b, x0c, -⟩ := id F_g.out
    go_wp2_with fail
    clear x0a x0b x0c
    refine (alive_yes _).mono ?_
    rintro e w1 ⟨rfl, hb1⟩
    replace F_g := Lib.hid (F_g.out.keep hb1)
    replace HBW := Lib.hid (HBW.out.trans (hb1.mono HBW.out.size))
    clear hb1
    obtain ⟨x0a, x0b, x0c, -⟩ := id F_g.out
    go_wp2_with fail
    clear x0a x0b x0c
    refine (gcheck_any P Q G 300 _ hP hQ hG HV.out).mono ?_
    rintro e w2 ⟨rfl, hb2⟩
    replace F_g := Lib.hid (F_g.out.keep hb2)
    replace HBW := Lib.hid (HBW.out.trans (hb2.mono HBW.out.size))
    clear hb2
    obtain ⟨x0a, x0b, x0c, -⟩ := id F_g.out
    go_wp2_with fail
    go_ret
    exact ⟨rfl, HBW.out⟩
  case pos =>
    have HV := Lib.hid (show ValidS P Q G 0 from .inl ⟨hv, rfl⟩)
    have HG := Lib.hid hv.grp
    have HH := Lib.hid hv.has
    obtain ⟨p5, p3, _, pq, g2, gP⟩ := id hv.1
    have q3 : Q < 1073741824 := by omega
    clear hv pq
    by_cases my_ : Mem P Q y
    case neg =>
      have HM_y := Lib.hid my_
      clear my_
      have F_g := Lib.hid (show Boxed (w.alloc (.cells #[.int .u64 P, .int .u64 Q, .int .u64 G] 24)) (w.heap.size) P Q G from Boxed.at _ P Q G _ (w.heap.size) (by simp))
      have HBW := Lib.hid (show Below w.heap.size w (w.alloc (.cells #[.int .u64 P, .int .u64 Q, .int .u64 G] 24)) from (Below.refl _ _).alloc (by simp <;> omega) _)
      go_enter Tryd.func7, Tryd.ntmps7
      obtain ⟨x0a, x0b, x0c, -⟩ := id F_g.out
      go_wp2_with fail
      clear x0a x0b x0c
      refine (alive_yes _).mono ?_
      rintro e w1 ⟨rfl, hb1⟩
      replace F_g := Lib.hid (F_g.out.keep hb1)
      replace HBW := Lib.hid (HBW.out.trans (hb1.mono HBW.out.size))
      clear hb1
      obtain ⟨x0a, x0b, x0c, -⟩ := id F_g.out
      go_wp2_with fail
      clear x0a x0b x0c
      refine (gcheck_any P Q G 0 _ hP hQ hG HV.out).mono ?_
      rintro e w2 ⟨rfl, hb2⟩
      replace F_g := Lib.hid (F_g.out.keep hb2)
      replace HBW := Lib.hid (HBW.out.trans (hb2.mono HBW.out.size))
      clear hb2
      obtain ⟨x0a, x0b, x0c, -⟩ := id F_g.out
      go_wp2_with fail
      clear x0a x0b x0c
      refine (member_is (r := false) _ hP hQ hG hy (by simp [HM_y.out])).mono ?_
      rintro e w3 ⟨rfl, hb3⟩
      replace F_g := Lib.hid (F_g.out.keep hb3)
      replace HBW := Lib.hid (HBW.out.trans (hb3.mono HBW.out.size))
      clear hb3
      obtain ⟨x0a, x0b, x0c, -⟩ := id F_g.out
      go_wp2_with fail
      go_ret
      exact ⟨rfl, HBW.out⟩
    case pos =>
      have HM_y := Lib.hid my_
      clear my_
      by_cases hrQ : r < Q
      case neg =>
        have rQ_ : Q ≤ r := by omega
        clear hrQ
        have F_g := Lib.hid (show Boxed (w.alloc (.cells #[.int .u64 P, .int .u64 Q, .int .u64 G] 24)) (w.heap.size) P Q G from Boxed.at _ P Q G _ (w.heap.size) (by simp))
        have HBW := Lib.hid (show Below w.heap.size w (w.alloc (.cells #[.int .u64 P, .int .u64 Q, .int .u64 G] 24)) from (Below.refl _ _).alloc (by simp <;> omega) _)
        go_enter Tryd.func7, Tryd.ntmps7
        obtain ⟨x0a, x0b, x0c, -⟩ := id F_g.out
        go_wp2_with fail
        clear x0a x0b x0c
        refine (alive_yes _).mono ?_
        rintro e w1 ⟨rfl, hb1⟩
        replace F_g := Lib.hid (F_g.out.keep hb1)
        replace HBW := Lib.hid (HBW.out.trans (hb1.mono HBW.out.size))
        clear hb1
        obtain ⟨x0a, x0b, x0c, -⟩ := id F_g.out
        go_wp2_with fail
        clear x0a x0b x0c
        refine (gcheck_any P Q G 0 _ hP hQ hG HV.out).mono ?_
        rintro e w2 ⟨rfl, hb2⟩
        replace F_g := Lib.hid (F_g.out.keep hb2)
        replace HBW := Lib.hid (HBW.out.trans (hb2.mono HBW.out.size))
        clear hb2
        obtain ⟨x0a, x0b, x0c, -⟩ := id F_g.out
        go_wp2_with fail
        clear x0a x0b x0c
        refine (member_is (r := true) _ hP hQ hG hy (by simp [HM_y.out, HH.out])).mono ?_
        rintro e w3 ⟨rfl, hb3⟩
        replace F_g := Lib.hid (F_g.out.keep hb3)
        replace HBW := Lib.hid (HBW.out.trans (hb3.mono HBW.out.size))
        clear hb3
        obtain ⟨x0a, x0b, x0c, -⟩ := id F_g.out
        go_wp2_with fail
        go_ret
        exact ⟨rfl, HBW.out⟩
      case pos =>
        have rQ := hrQ
        clear hrQ
        by_cases hkQ : k < Q
        case neg =>
          have kQ_ : Q ≤ k := by omega
          clear hkQ
          have F_g := Lib.hid (show Boxed (w.alloc (.cells #[.int .u64 P, .int .u64 Q, .int .u64 G] 24)) (w.heap.size) P Q G from Boxed.at _ P Q G _ (w.heap.size) (by simp))
          have HBW := Lib.hid (show Below w.heap.size w (w.alloc (.cells #[.int .u64 P, .int .u64 Q, .int .u64 G] 24)) from (Below.refl _ _).alloc (by simp <;> omega) _)
          go_enter Tryd.func7, Tryd.ntmps7
          obtain ⟨x0a, x0b, x0c, -⟩ := id F_g.out
          go_wp2_with fail
          clear x0a x0b x0c
          refine (alive_yes _).mono ?_
          rintro e w1 ⟨rfl, hb1⟩
          replace F_g := Lib.hid (F_g.out.keep hb1)
          replace HBW := Lib.hid (HBW.out.trans (hb1.mono HBW.out.size))
          clear hb1
          obtain ⟨x0a, x0b, x0c, -⟩ := id F_g.out
          go_wp2_with fail
          clear x0a x0b x0c
          refine (gcheck_any P Q G 0 _ hP hQ hG HV.out).mono ?_
          rintro e w2 ⟨rfl, hb2⟩
          replace F_g := Lib.hid (F_g.out.keep hb2)
          replace HBW := Lib.hid (HBW.out.trans (hb2.mono HBW.out.size))
          clear hb2
          obtain ⟨x0a, x0b, x0c, -⟩ := id F_g.out
          go_wp2_with fail
          clear x0a x0b x0c
          refine (member_is (r := true) _ hP hQ hG hy (by simp [HM_y.out, HH.out])).mono ?_
          rintro e w3 ⟨rfl, hb3⟩
          replace F_g := Lib.hid (F_g.out.keep hb3)
          replace HBW := Lib.hid (HBW.out.trans (hb3.mono HBW.out.size))
          clear hb3
          obtain ⟨x0a, x0b, x0c, -⟩ := id F_g.out
          go_wp2_with fail
          go_ret
          exact ⟨rfl, HBW.out⟩
        case pos =>
          have kQ := hkQ
          clear hkQ
          by_cases hcQ : c < Q
          case neg =>
            have cQ_ : Q ≤ c := by omega
            clear hcQ
            have F_g := Lib.hid (show Boxed (w.alloc (.cells #[.int .u64 P, .int .u64 Q, .int .u64 G] 24)) (w.heap.size) P Q G from Boxed.at _ P Q G _ (w.heap.size) (by simp))
            have HBW := Lib.hid (show Below w.heap.size w (w.alloc (.cells #[.int .u64 P, .int .u64 Q, .int .u64 G] 24)) from (Below.refl _ _).alloc (by simp <;> omega) _)
            go_enter Tryd.func7, Tryd.ntmps7
            obtain ⟨x0a, x0b, x0c, -⟩ := id F_g.out
            go_wp2_with fail
            clear x0a x0b x0c
            refine (alive_yes _).mono ?_
            rintro e w1 ⟨rfl, hb1⟩
            replace F_g := Lib.hid (F_g.out.keep hb1)
            replace HBW := Lib.hid (HBW.out.trans (hb1.mono HBW.out.size))
            clear hb1
            obtain ⟨x0a, x0b, x0c, -⟩ := id F_g.out
            go_wp2_with fail
            clear x0a x0b x0c
            refine (gcheck_any P Q G 0 _ hP hQ hG HV.out).mono ?_
            rintro e w2 ⟨rfl, hb2⟩
            replace F_g := Lib.hid (F_g.out.keep hb2)
            replace HBW := Lib.hid (HBW.out.trans (hb2.mono HBW.out.size))
            clear hb2
            obtain ⟨x0a, x0b, x0c, -⟩ := id F_g.out
            go_wp2_with fail
            clear x0a x0b x0c
            refine (member_is (r := true) _ hP hQ hG hy (by simp [HM_y.out, HH.out])).mono ?_
            rintro e w3 ⟨rfl, hb3⟩
            replace F_g := Lib.hid (F_g.out.keep hb3)
            replace HBW := Lib.hid (HBW.out.trans (hb3.mono HBW.out.size))
            clear hb3
            obtain ⟨x0a, x0b, x0c, -⟩ := id F_g.out
            go_wp2_with fail
            go_ret
            exact ⟨rfl, HBW.out⟩
          case pos =>
            have cQ := hcQ
            clear hcQ
            by_cases hzQ : z < Q
            case neg =>
              have zQ_ : Q ≤ z := by omega
              clear hzQ
              have F_g := Lib.hid (show Boxed (w.alloc (.cells #[.int .u64 P, .int .u64 Q, .int .u64 G] 24)) (w.heap.size) P Q G from Boxed.at _ P Q G _ (w.heap.size) (by simp))
              have HBW := Lib.hid (show Below w.heap.size w (w.alloc (.cells #[.int .u64 P, .int .u64 Q, .int .u64 G] 24)) from (Below.refl _ _).alloc (by simp <;> omega) _)
              go_enter Tryd.func7, Tryd.ntmps7
              obtain ⟨x0a, x0b, x0c, -⟩ := id F_g.out
              go_wp2_with fail
              clear x0a x0b x0c
              refine (alive_yes _).mono ?_
              rintro e w1 ⟨rfl, hb1⟩
              replace F_g := Lib.hid (F_g.out.keep hb1)
              replace HBW := Lib.hid (HBW.out.trans (hb1.mono HBW.out.size))
              clear hb1
              obtain ⟨x0a, x0b, x0c, -⟩ := id F_g.out
              go_wp2_with fail
              clear x0a x0b x0c
              refine (gcheck_any P Q G 0 _ hP hQ hG HV.out).mono ?_
              rintro e w2 ⟨rfl, hb2⟩
              replace F_g := Lib.hid (F_g.out.keep hb2)
              replace HBW := Lib.hid (HBW.out.trans (hb2.mono HBW.out.size))
              clear hb2
              obtain ⟨x0a, x0b, x0c, -⟩ := id F_g.out
              go_wp2_with fail
              clear x0a x0b x0c
              refine (member_is (r := true) _ hP hQ hG hy (by simp [HM_y.out, HH.out])).mono ?_
              rintro e w3 ⟨rfl, hb3⟩
              replace F_g := Lib.hid (F_g.out.keep hb3)
              replace HBW := Lib.hid (HBW.out.trans (hb3.mono HBW.out.size))
              clear hb3
              obtain ⟨x0a, x0b, x0c, -⟩ := id F_g.out
              go_wp2_with fail
              go_ret
              exact ⟨rfl, HBW.out⟩
            case pos =>
              have zQ := hzQ
              clear hzQ
              by_cases hn : n ≤ 8000
              case neg =>
                have hd : decide ((8000 : Int) < (n : Int)) = true := by simp; omega
                have hdn : decide (8000 < n) = true := by simp; omega
                clear hn
                have F_g := Lib.hid (show Boxed (w.alloc (.cells #[.int .u64 P, .int .u64 Q, .int .u64 G] 24)) (w.heap.size) P Q G from Boxed.at _ P Q G _ (w.heap.size) (by simp))
                have HBW := Lib.hid (show Below w.heap.size w (w.alloc (.cells #[.int .u64 P, .int .u64 Q, .int .u64 G] 24)) from (Below.refl _ _).alloc (by simp <;> omega) _)
                go_enter Tryd.func7, Tryd.ntmps7
                obtain ⟨x0a, x0b, x0c, -⟩ := id F_g.out
                go_wp2_with fail
                clear x0a x0b x0c
                refine (alive_yes _).mono ?_
                rintro e w1 ⟨rfl, hb1⟩
                replace F_g := Lib.hid (F_g.out.keep hb1)
                replace HBW := Lib.hid (HBW.out.trans (hb1.mono HBW.out.size))
                clear hb1
                obtain ⟨x0a, x0b, x0c, -⟩ := id F_g.out
                go_wp2_with fail
                clear x0a x0b x0c
                refine (gcheck_any P Q G 0 _ hP hQ hG HV.out).mono ?_
                rintro e w2 ⟨rfl, hb2⟩
                replace F_g := Lib.hid (F_g.out.keep hb2)
                replace HBW := Lib.hid (HBW.out.trans (hb2.mono HBW.out.size))
                clear hb2
                obtain ⟨x0a, x0b, x0c, -⟩ := id F_g.out
                go_wp2_with fail
                clear x0a x0b x0c
                refine (member_is (r := true) _ hP hQ hG hy (by simp [HM_y.out, HH.out])).mono ?_
                rintro e w3 ⟨rfl, hb3⟩
                replace F_g := Lib.hid (F_g.out.keep hb3)
                replace HBW := Lib.hid (HBW.out.trans (hb3.mono HBW.out.size))
                clear hb3
                obtain ⟨x0a, x0b, x0c, -⟩ := id F_g.out
                go_wp2_with fail
                go_ret
                exact ⟨rfl, HBW.out⟩
              case pos =>
                cases one with
                | false =>
                  have hd : decide ((8000 : Int) < (n : Int)) = false := by simp; omega
                  have hdn : decide (8000 < n) = false := by simp; omega
                  have q2 : 2 ≤ Q := HG.out.pQ.1
                  have my := HM_y.out
                  have y0 := hy
                  have yP := my.2.1
                  obtain ⟨a, ha⟩ : ∃ a, powm G r P = a := ⟨_, rfl⟩
                  obtain ⟨b, hb⟩ : ∃ b, powm G 0 P * powm y r P % P = b := ⟨_, rfl⟩
                  obtain ⟨e0, e1, e2, e3, e4, e5, e6, e7, hZ⟩ := BitZ.exists P Q G y 0 r k c z T
                  obtain ⟨⟨p00, p01⟩, ⟨p10, p11⟩, ⟨p20, p21⟩, ⟨p30, p31⟩, ⟨p40, p41⟩, ⟨p50, p51⟩, ⟨p60, p61⟩, ⟨p70, p71⟩⟩ := hZ.rng (by omega) (by omega) hc cQ hz zQ
                  have HA := Lib.hid ha
                  have HB := Lib.hid hb
                  have a0 : 0 ≤ a := by rw [← ha]; exact powm_nonneg (by omega)
                  have aP : a < P := by rw [← ha]; exact powm_lt (by omega)
                  have b_0 : 0 ≤ b := by rw [← hb]; exact Int.emod_nonneg _ (by omega)
                  have b_P : b < P := by rw [← hb]; exact Int.emod_lt_of_pos _ (by omega)
                  have H1 := Lib.hid (show RetBit (lgS (bitChk P Q G y 0 r k c z) n) P Q G y 0 r k c z T e0 e1 e2 e3 e4 e5 e6 e7 0 from .inl ⟨lgS_ok (by rw [bitChk, if_pos (askS_ok HH.out (by simp; omega) (by simp; omega)), if_pos (by simp)]) hn, hZ, rfl⟩)
                  have H2 := Lib.hid (show RetB (lgS (askS P Q G [e4, e5, e6, e7] [y, a, b, e0, e1, e2, e3]) n) (bvP P Q G y a b e0 e1 e2 e3 e4 e5 e6 e7 T) true 0 from .inl ⟨lgS_ok (askS_ok HH.out (by simp; omega) (by simp; omega)) hn, ⟨fun _ => bit_complete HG.out my (by simp) hr hk hc hz ha hb hZ, fun _ => rfl⟩, rfl⟩)
                  obtain ⟨ho0, ho1⟩ := hZ.other
                  obtain ⟨rfl, rfl⟩ := ho0 rfl
                  clear hZ ha hb ho0 ho1 my
                  have F_g := Lib.hid (show Boxed (w.alloc (.cells #[.int .u64 P, .int .u64 Q, .int .u64 G] 24)) (w.heap.size) P Q G from Boxed.at _ P Q G _ (w.heap.size) (by simp))
                  have HBW := Lib.hid (show Below w.heap.size w (w.alloc (.cells #[.int .u64 P, .int .u64 Q, .int .u64 G] 24)) from (Below.refl _ _).alloc (by simp <;> omega) _)
                  go_enter Tryd.func7, Tryd.ntmps7
                  obtain ⟨x0a, x0b, x0c, -⟩ := id F_g.out
                  go_wp2_with fail
                  clear x0a x0b x0c
                  refine (alive_yes _).mono ?_
                  rintro e w1 ⟨rfl, hb1⟩
                  replace F_g := Lib.hid (F_g.out.keep hb1)
                  replace HBW := Lib.hid (HBW.out.trans (hb1.mono HBW.out.size))
                  clear hb1
                  obtain ⟨x0a, x0b, x0c, -⟩ := id F_g.out
                  go_wp2_with fail
                  clear x0a x0b x0c
                  refine (gcheck_any P Q G 0 _ hP hQ hG HV.out).mono ?_
                  rintro e w2 ⟨rfl, hb2⟩
                  replace F_g := Lib.hid (F_g.out.keep hb2)
                  replace HBW := Lib.hid (HBW.out.trans (hb2.mono HBW.out.size))
                  clear hb2
                  obtain ⟨x0a, x0b, x0c, -⟩ := id F_g.out
                  go_wp2_with fail
                  clear x0a x0b x0c
                  refine (member_is (r := true) _ hP hQ hG hy (by simp [HM_y.out, HH.out])).mono ?_
                  rintro e w3 ⟨rfl, hb3⟩
                  replace F_g := Lib.hid (F_g.out.keep hb3)
                  replace HBW := Lib.hid (HBW.out.trans (hb3.mono HBW.out.size))
                  clear hb3
                  obtain ⟨x0a, x0b, x0c, -⟩ := id F_g.out
                  go_wp2_with fail
                  clear x0a x0b x0c
                  refine (encrypt_ok _ HH.out y0 yP (by omega) (by omega) hr rQ HA.out HB.out).mono ?_
                  rintro e w4 ⟨rfl, hb4⟩
                  replace F_g := Lib.hid (F_g.out.keep hb4)
                  replace HBW := Lib.hid (HBW.out.trans (hb4.mono HBW.out.size))
                  clear hb4
                  have hzg := F_g.out.lt
                  obtain ⟨x0a, x0b, x0c, -⟩ := id F_g.out
                  go_wp2_with fail
                  clear hzg
                  replace F_g := Lib.hid (F_g.out.alloc (.cells #[.int .u64 a, .int .u64 b] 51))
                  have F_s := Lib.hid (Pair.new w4 a b 51)
                  replace HBW := Lib.hid (HBW.out.alloc HBW.out.size (.cells #[.int .u64 a, .int .u64 b] 51))
                  clear x0a x0b x0c
                  refine (pbitProve_any _ (HT.out.keep HBW.out) hP hQ hG y0 hr hk p50 p70 (by omega) H1.out).mono ?_
                  rintro e w5 ⟨rfl, hb5⟩
                  replace F_g := Lib.hid (F_g.out.keep hb5)
                  replace F_s := Lib.hid (F_s.out.keep hb5)
                  replace HBW := Lib.hid (HBW.out.trans (hb5.mono HBW.out.size))
                  clear hb5
                  have hzg := F_g.out.lt
                  have hzs := F_s.out.lt
                  obtain ⟨x0a, x0b, x0c, -⟩ := id F_g.out
                  obtain ⟨x1a, x1b, x1c, x1d, -⟩ := id F_s.out
                  go_wp2_with fail
                  clear hzg hzs
                  replace F_g := Lib.hid (F_g.out.alloc (.cells #[.int .u64 e0, .int .u64 e1, .int .u64 e2, .int .u64 e3, .int .u64 e4, .int .u64 e5, .int .u64 e6, .int .u64 e7] 54))
                  replace F_s := Lib.hid (F_s.out.alloc (.cells #[.int .u64 e0, .int .u64 e1, .int .u64 e2, .int .u64 e3, .int .u64 e4, .int .u64 e5, .int .u64 e6, .int .u64 e7] 54))
                  have F_pf := Lib.hid (show Arr .u64 (w5.alloc (.cells #[.int .u64 e0, .int .u64 e1, .int .u64 e2, .int .u64 e3, .int .u64 e4, .int .u64 e5, .int .u64 e6, .int .u64 e7] 54)) (w5.heap.size) [e0, e1, e2, e3, e4, e5, e6, e7] from Arr.new .u64 w5 [e0, e1, e2, e3, e4, e5, e6, e7] _ _ rfl)
                  replace HBW := Lib.hid (HBW.out.alloc HBW.out.size (.cells #[.int .u64 e0, .int .u64 e1, .int .u64 e2, .int .u64 e3, .int .u64 e4, .int .u64 e5, .int .u64 e6, .int .u64 e7] 54))
                  clear x0a x0b x0c x1a x1b x1c x1d
                  refine (pbitVerify_any _ (HT.out.keep HBW.out) hP hQ hG y0 a0 b_0 p00 p10 p20 p30 p40 p50 p60 p70 (by omega) H2.out).mono ?_
                  rintro e w6 ⟨rfl, hb6⟩
                  replace F_g := Lib.hid (F_g.out.keep hb6)
                  replace F_s := Lib.hid (F_s.out.keep hb6)
                  replace F_pf := Lib.hid (F_pf.out.keep hb6)
                  replace HBW := Lib.hid (HBW.out.trans (hb6.mono HBW.out.size))
                  clear hb6
                  obtain ⟨q2_0, q2_1, q2_2, q2_3, q2_4, q2_5, q2_6, q2_7, q2_8, q2_9, q2_10, q2_11, q2_12, q2_13, q2_14, q2_15⟩ := Arr.k8 F_pf.out
                  obtain ⟨x0a, x0b, x0c, -⟩ := id F_g.out
                  obtain ⟨x1a, x1b, x1c, x1d, -⟩ := id F_s.out
                  go_wp2_with fail
                  go_ret
                  exact ⟨rfl, HBW.out⟩
                | true =>
                  have hd : decide ((8000 : Int) < (n : Int)) = false := by simp; omega
                  have hdn : decide (8000 < n) = false := by simp; omega
                  have q2 : 2 ≤ Q := HG.out.pQ.1
                  have my := HM_y.out
                  have y0 := hy
                  have yP := my.2.1
                  obtain ⟨a, ha⟩ : ∃ a, powm G r P = a := ⟨_, rfl⟩
                  obtain ⟨b, hb⟩ : ∃ b, powm G 1 P * powm y r P % P = b := ⟨_, rfl⟩
                  obtain ⟨e0, e1, e2, e3, e4, e5, e6, e7, hZ⟩ := BitZ.exists P Q G y 1 r k c z T
                  obtain ⟨⟨p00, p01⟩, ⟨p10, p11⟩, ⟨p20, p21⟩, ⟨p30, p31⟩, ⟨p40, p41⟩, ⟨p50, p51⟩, ⟨p60, p61⟩, ⟨p70, p71⟩⟩ := hZ.rng (by omega) (by omega) hc cQ hz zQ
                  have HA := Lib.hid ha
                  have HB := Lib.hid hb
                  have a0 : 0 ≤ a := by rw [← ha]; exact powm_nonneg (by omega)
                  have aP : a < P := by rw [← ha]; exact powm_lt (by omega)
                  have b_0 : 0 ≤ b := by rw [← hb]; exact Int.emod_nonneg _ (by omega)
                  have b_P : b < P := by rw [← hb]; exact Int.emod_lt_of_pos _ (by omega)
                  have H1 := Lib.hid (show RetBit (lgS (bitChk P Q G y 1 r k c z) n) P Q G y 1 r k c z T e0 e1 e2 e3 e4 e5 e6 e7 0 from .inl ⟨lgS_ok (by rw [bitChk, if_pos (askS_ok HH.out (by simp; omega) (by simp; omega)), if_pos (by simp)]) hn, hZ, rfl⟩)
                  have H2 := Lib.hid (show RetB (lgS (askS P Q G [e4, e5, e6, e7] [y, a, b, e0, e1, e2, e3]) n) (bvP P Q G y a b e0 e1 e2 e3 e4 e5 e6 e7 T) true 0 from .inl ⟨lgS_ok (askS_ok HH.out (by simp; omega) (by simp; omega)) hn, ⟨fun _ => bit_complete HG.out my (by simp) hr hk hc hz ha hb hZ, fun _ => rfl⟩, rfl⟩)
                  obtain ⟨ho0, ho1⟩ := hZ.other
                  obtain ⟨rfl, rfl⟩ := ho1 (by decide)
                  clear hZ ha hb ho0 ho1 my
                  have F_g := Lib.hid (show Boxed (w.alloc (.cells #[.int .u64 P, .int .u64 Q, .int .u64 G] 24)) (w.heap.size) P Q G from Boxed.at _ P Q G _ (w.heap.size) (by simp))
                  have HBW := Lib.hid (show Below w.heap.size w (w.alloc (.cells #[.int .u64 P, .int .u64 Q, .int .u64 G] 24)) from (Below.refl _ _).alloc (by simp <;> omega) _)
                  go_enter Tryd.func7, Tryd.ntmps7
                  obtain ⟨x0a, x0b, x0c, -⟩ := id F_g.out
                  go_wp2_with fail
                  clear x0a x0b x0c
                  refine (alive_yes _).mono ?_
                  rintro e w1 ⟨rfl, hb1⟩
                  replace F_g := Lib.hid (F_g.out.keep hb1)
                  replace HBW := Lib.hid (HBW.out.trans (hb1.mono HBW.out.size))
                  clear hb1
                  obtain ⟨x0a, x0b, x0c, -⟩ := id F_g.out
                  go_wp2_with fail
                  clear x0a x0b x0c
                  refine (gcheck_any P Q G 0 _ hP hQ hG HV.out).mono ?_
                  rintro e w2 ⟨rfl, hb2⟩
                  replace F_g := Lib.hid (F_g.out.keep hb2)
                  replace HBW := Lib.hid (HBW.out.trans (hb2.mono HBW.out.size))
                  clear hb2
                  obtain ⟨x0a, x0b, x0c, -⟩ := id F_g.out
                  go_wp2_with fail
                  clear x0a x0b x0c
                  refine (member_is (r := true) _ hP hQ hG hy (by simp [HM_y.out, HH.out])).mono ?_
                  rintro e w3 ⟨rfl, hb3⟩
                  replace F_g := Lib.hid (F_g.out.keep hb3)
                  replace HBW := Lib.hid (HBW.out.trans (hb3.mono HBW.out.size))
                  clear hb3
                  obtain ⟨x0a, x0b, x0c, -⟩ := id F_g.out
                  go_wp2_with fail
                  clear x0a x0b x0c
                  refine (encrypt_ok _ HH.out y0 yP (by omega) (by omega) hr rQ HA.out HB.out).mono ?_
                  rintro e w4 ⟨rfl, hb4⟩
                  replace F_g := Lib.hid (F_g.out.keep hb4)
                  replace HBW := Lib.hid (HBW.out.trans (hb4.mono HBW.out.size))
                  clear hb4
                  have hzg := F_g.out.lt
                  obtain ⟨x0a, x0b, x0c, -⟩ := id F_g.out
                  go_wp2_with fail
                  clear hzg
                  replace F_g := Lib.hid (F_g.out.alloc (.cells #[.int .u64 a, .int .u64 b] 51))
                  have F_s := Lib.hid (Pair.new w4 a b 51)
                  replace HBW := Lib.hid (HBW.out.alloc HBW.out.size (.cells #[.int .u64 a, .int .u64 b] 51))
                  clear x0a x0b x0c
                  refine (pbitProve_any _ (HT.out.keep HBW.out) hP hQ hG y0 hr hk p40 p60 (by omega) H1.out).mono ?_
                  rintro e w5 ⟨rfl, hb5⟩
                  replace F_g := Lib.hid (F_g.out.keep hb5)
                  replace F_s := Lib.hid (F_s.out.keep hb5)
                  replace HBW := Lib.hid (HBW.out.trans (hb5.mono HBW.out.size))
                  clear hb5
                  have hzg := F_g.out.lt
                  have hzs := F_s.out.lt
                  obtain ⟨x0a, x0b, x0c, -⟩ := id F_g.out
                  obtain ⟨x1a, x1b, x1c, x1d, -⟩ := id F_s.out
                  go_wp2_with fail
                  clear hzg hzs
                  replace F_g := Lib.hid (F_g.out.alloc (.cells #[.int .u64 e0, .int .u64 e1, .int .u64 e2, .int .u64 e3, .int .u64 e4, .int .u64 e5, .int .u64 e6, .int .u64 e7] 54))
                  replace F_s := Lib.hid (F_s.out.alloc (.cells #[.int .u64 e0, .int .u64 e1, .int .u64 e2, .int .u64 e3, .int .u64 e4, .int .u64 e5, .int .u64 e6, .int .u64 e7] 54))
                  have F_pf := Lib.hid (show Arr .u64 (w5.alloc (.cells #[.int .u64 e0, .int .u64 e1, .int .u64 e2, .int .u64 e3, .int .u64 e4, .int .u64 e5, .int .u64 e6, .int .u64 e7] 54)) (w5.heap.size) [e0, e1, e2, e3, e4, e5, e6, e7] from Arr.new .u64 w5 [e0, e1, e2, e3, e4, e5, e6, e7] _ _ rfl)
                  replace HBW := Lib.hid (HBW.out.alloc HBW.out.size (.cells #[.int .u64 e0, .int .u64 e1, .int .u64 e2, .int .u64 e3, .int .u64 e4, .int .u64 e5, .int .u64 e6, .int .u64 e7] 54))
                  clear x0a x0b x0c x1a x1b x1c x1d
                  refine (pbitVerify_any _ (HT.out.keep HBW.out) hP hQ hG y0 a0 b_0 p00 p10 p20 p30 p40 p50 p60 p70 (by omega) H2.out).mono ?_
                  rintro e w6 ⟨rfl, hb6⟩
                  replace F_g := Lib.hid (F_g.out.keep hb6)
                  replace F_s := Lib.hid (F_s.out.keep hb6)
                  replace F_pf := Lib.hid (F_pf.out.keep hb6)
                  replace HBW := Lib.hid (HBW.out.trans (hb6.mono HBW.out.size))
                  clear hb6
                  obtain ⟨q2_0, q2_1, q2_2, q2_3, q2_4, q2_5, q2_6, q2_7, q2_8, q2_9, q2_10, q2_11, q2_12, q2_13, q2_14, q2_15⟩ := Arr.k8 F_pf.out
                  obtain ⟨x0a, x0b, x0c, -⟩ := id F_g.out
                  obtain ⟨x1a, x1b, x1c, x1d, -⟩ := id F_s.out
                  go_wp2_with fail
                  go_ret
                  exact ⟨rfl, HBW.out⟩


set_option maxRecDepth 100000 in
theorem lifted (os : Os) (started : os.Started) (H : Type) (enc : TypeId × Value → H) :
    ReturnsInHanded {} Tryd.checked os 7 .any (fun w args => (Rows.proofBitCompleteSpec.pre enc Tryd.prog Tryd.f7 [] false w args ∧ laidMetH Tryd.prog laidL w) ∧ sizedMet enc Tryd.prog Tryd.f7 (OpenSpec.ofChange Rows.proofBitCompleteSpec) false w args) (Rows.proofBitCompleteSpec.post enc Tryd.prog Tryd.f7 false true false false) := by
  refine returnsInHanded_of_change_and (C := Tryd.checked) (X := fun w _ => laidMetH Tryd.prog laidL w) (fun _ _ _ hh h => h.of_heap hh) own started (by kernel_rfl) Tryd.func7
    (ChangeSpec.witness_shaped (enc := enc) (C := Tryd.checked) (os := os) (X := fun w _ => laidMetH Tryd.prog laidL w) false (World.doorLaid Tryd.prog 19 os) #[.agg #[.int .u64 0, .int .u64 0, .int .u64 0], .int .u64 0, .bool false, .int .u64 0, .int .u64 0, .int .u64 0, .int .u64 0, .slice none 0 0] 8 rfl (World.shaped_of_RefB (by kernel_rfl) (by kernel_rfl)) (by kernel_rfl) (by kernel_rfl) (by kernel_rfl) (door_met os _)) ?_
  intro W base args ds gs before hval0 hW _ _ hL _
  have hT := tabs_of_laid hL
  clear hL
  have hval : ∀ (j : Nat) t v, Tryd.f7.params[j]? = some t → args[j]? = some v → Value.okWide Tryd.prog W .any base t v := hval0
  have hW' := hW
  obtain ⟨p, q, hA0, hV, rfl, hfz, hnd⟩ := hW
  have hA : DataW.TrodAll enc Tryd.prog W 0 (fun _ => true) true Tryd.f7.params.toList args.toList ds p := hA0
  rw [Tryd.params7] at hA hval
  have hK := hA
  obtain ⟨v0, vs0, d0, ds0, p0, q0, hargs, rfl, rfl, h0, r0⟩ := trodAll_cons hA
  obtain ⟨v1, vs1, d1, ds1, p1, q1, rfl, rfl, rfl, h1, r1⟩ := trodAll_cons r0
  obtain ⟨v2, vs2, d2, ds2, p2, q2, rfl, rfl, rfl, h2, r2⟩ := trodAll_cons r1
  obtain ⟨v3, vs3, d3, ds3, p3, q3, rfl, rfl, rfl, h3, r3⟩ := trodAll_cons r2
  obtain ⟨v4, vs4, d4, ds4, p4, q4, rfl, rfl, rfl, h4, r4⟩ := trodAll_cons r3
  obtain ⟨v5, vs5, d5, ds5, p5, q5, rfl, rfl, rfl, h5, r5⟩ := trodAll_cons r4
  obtain ⟨v6, vs6, d6, ds6, p6, q6, rfl, rfl, rfl, h6, r6⟩ := trodAll_cons r5
  obtain ⟨v7, vs7, d7, ds7, p7, q7, rfl, rfl, rfl, h7, r7⟩ := trodAll_cons r6
  obtain ⟨rfl, rfl, rfl⟩ := trodAll_nil r7
  obtain rfl : args = #[v0, v1, v2, v3, v4, v5, v6, v7] := by cases args; simp_all
  obtain ⟨rfl, rfl⟩ := trodVars_none hV
  obtain ⟨P, Q, G, rfl, uP, uQ, uG⟩ := open_group (hval 0 24 v0 rfl rfl) h0
  obtain ⟨y, rfl, uy⟩ := open_u64 (hval 1 22 v1 rfl rfl) h1
  obtain ⟨one, rfl, u1⟩ := open_boolT (hval 2 4 v2 rfl rfl) h2
  obtain ⟨r, rfl, ur⟩ := open_u64 (hval 3 22 v3 rfl rfl) h3
  obtain ⟨k, rfl, uk⟩ := open_u64 (hval 4 22 v4 rfl rfl) h4
  obtain ⟨c, rfl, uc⟩ := open_u64 (hval 5 22 v5 rfl rfl) h5
  obtain ⟨z, rfl, uz⟩ := open_u64 (hval 6 22 v6 rfl rfl) h6
  obtain ⟨tx, n, cp, T, rfl, ht, hb, hz, hnc⟩ := open_bytes (hval 7 27 v7 rfl rfl) h7
  clear hA0 hval0
  refine (walk P Q G y one r k c z tx n cp T W uP uQ uG uy u1 ur uk uc uz ht hb hz hnc hT).mono fun e W' ⟨he, bel⟩ => ?_
  subst he
  exact ⟨_, rfl, _, _, _, [], _, [], hW', trodAll_mk1 (shut_bool Tryd.underlying4 _), trodAll_stays laidOut (by kernel_rfl) hK bel, rfl, bel.frame _, fun h => by cases h⟩

theorem over : Rows.proofBitCompleteRow.holds Tryd.pinned (OpenSpec.ofChange Rows.proofBitCompleteSpec) :=
  OpenClaim.holds_of_wide 7 Tryd.f7 rfl rfl rfl rfl rfl rfl rfl ⟨rfl, rfl, rfl, rfl, rfl⟩ rfl rfl rfl rfl rfl (by kernel_rfl) Tryd.func7 (by kernel_rfl)
    (of_decide_eq_true (by kernel_rfl)) (by unfold Func.isWrapper; first | (rw [if_pos (by decide +kernel)]; kernel_rfl) | (rw [if_neg (by decide +kernel)]; exact ⟨rfl, rfl⟩))
    (fun os started H enc _ => lifted os started H enc)

theorem proved : Rows.ProofBitCompleteCardSaid :=
  Claim7.holds_tied_plain_at .later [] [.data, .data] true (true, "4b41c1e4d249352bcdad7fb442f9b4095dc9194e4b92b27cabf601e235f481d5") false
    over (fun _ h => by cases h) (by kernel_rfl) (fun _ h => by cases h) proofBitComplete_row_tie rfl ⟨rfl, rfl⟩ (by kernel_rfl) rfl
    (fun f fn hf hfn => by
      obtain rfl : f = 7 := Option.some.inj ((show Tryd.prog.funcNamed "suffrage/suffragelaw33.ProofBitComplete" = some 7 by kernel_rfl).symm.trans hf) |>.symm
      obtain rfl : fn = Tryd.f7 := (Option.some.inj (Tryd.func7.symm.trans hfn)).symm
      exact ⟨by kernel_rfl, fun j t ht => by
        rw [Tryd.params7] at ht
        have hm : t ∈ ([24, 22, 4, 22, 22, 22, 22, 27] : List TypeId) := by simpa using Array.mem_of_getElem? ht
        have hall : (([24, 22, 4, 22, 22, 22, 22, 27] : List TypeId).all fun u => !Tryd.prog.wantsStandIn u) = true := by kernel_rfl
        exact (show Tryd.prog.wantsStandIn t = false by simpa using List.all_eq_true.1 hall t hm)⟩)
    (by kernel_rfl)
#print axioms proved
end Go.Proofs.YtmcpfinnhgbcpaaDoor.lawBitComp
