/- ProofContext: the statement: for every input the law returns true, and the arguments read as before. -/
import Derived.Test.YtmcpfinnhgbcpaaDoorCardP
import Derived.Test.YtmcpfinnhgbcpaaDoorAux33
import Derived.Test.YtmcpfinnhgbcpaaDoorLaw31
import Derived.OwnWalk
import Derived.Laws.AppendOwn
import Derived.Test.YtmcpfinnhgbcpaaDoorEqC
namespace Go.Proofs.YtmcpfinnhgbcpaaDoor.lawCtx
open Go Sha Go.ChangeShapes Go.WideShapes Go.ChangeAt Go.RowKit Num
set_option linter.unusedSimpArgs false
set_option linter.unusedVariables false

set_option maxRecDepth 100000 in
set_option maxHeartbeats 25600000 in
theorem walk (P Q G y a d R S Z : Int) (tx : Option Addr) (n cp : Nat) (T : List Int) (tx2 : Option Addr) (n2 cp2 : Nat) (T2 : List Int) (w : World) (uP : U64 P) (uQ : U64 Q) (uG : U64 G) (uy : U64 y) (ua : U64 a) (ud : U64 d) (uR : U64 R) (uS : U64 S) (uZ : U64 Z) (ht : ShI .u8 w tx n T) (hb : ByteL T) (hz : tx = none → cp = 0) (hnc : n ≤ cp) (ht2 : ShI .u8 w tx2 n2 T2) (hb2 : ByteL T2) (hz2' : tx2 = none → cp2 = 0) (hnc2 : n2 ≤ cp2) (hT : Tabs w) :
    Calls Tryd.prog 4 #[.agg #[.int .u64 P, .int .u64 Q, .int .u64 G], .int .u64 y, .int .u64 a, .int .u64 d, .agg #[.int .u64 R, .int .u64 S, .int .u64 Z], .slice tx n cp, .slice tx2 n2 cp2] w fun e w' => e = .returned (.bool true) ∧ Below w.heap.size w w' := by
  have hP := uP.1
  have hQ := uQ.1
  have hG := uG.1
  have y0 := uy.1
  have a0 := ua.1
  have d0 := ud.1
  have R0 := uR.1
  have S0 := uS.1
  have Z0 := uZ.1
  have HT := Lib.hid (show Txt w tx n T from ⟨hT, ht, hb⟩)
  have HT2 := Lib.hid (show Txt w tx2 n2 T2 from ⟨hT, ht2, hb2⟩)
  obtain ⟨i0, hi, hz0, hz1, hz2⟩ := info_parts (P := Tryd.prog) (e := 5) (z := .int .u8 0) (size := 1) (bytes := 1) (by kernel_rfl)
  clear ht hb hT hz hnc ht2 hb2 hz2' hnc2
  by_cases hn : 8100 < n
  case neg =>
    have d1 : decide ((8100 : Int) < (n : Int)) = false := by simp; omega
    have d1n : decide (8100 < n) = false := by simp; omega
    by_cases hm : 8100 < n2
    case neg =>
      have d2 : decide ((8100 : Int) < (n2 : Int)) = false := by simp; omega
      have d2n : decide (8100 < n2) = false := by simp; omega
      by_cases hk : 7900 < n
      case neg =>
        have d3 : decide ((7900 : Int) < (n : Int)) = false := by simp; omega
        have d3n : decide (7900 < n) = false := by simp; omega
        by_cases hl : 7900 < n2
        case neg =>
          have d4 : decide ((7900 : Int) < (n2 : Int)) = false := by simp; omega
          have d4n : decide (7900 < n2) = false := by simp; omega
          obtain ⟨b, e1, h1⟩ := RetB.exists (lgS (askS P Q G [Z] [y, a, d, R, S]) n) (evP P Q G y a d R S Z T)
          obtain ⟨c, e2, h2⟩ := RetB.exists (lgS (askS P Q G [Z] [y, a, d, R, S]) n2) (evP P Q G y a d R S Z T2)
          by_cases hq : askS P Q G [Z] [y, a, d, R, S] = 0
          case neg =>
            obtain ⟨q, hqq⟩ : ∃ q, askS P Q G [Z] [y, a, d, R, S] = q := ⟨_, rfl⟩
            have hnq : q ≠ 0 := by rw [← hqq]; exact hq
            have hl1 : lgS (askS P Q G [Z] [y, a, d, R, S]) n = q := by rw [lgS_ne hq, hqq]
            have hl2 : lgS (askS P Q G [Z] [y, a, d, R, S]) n2 = q := by rw [lgS_ne hq, hqq]
            obtain rfl : e1 = q := by
              rcases h1 with ⟨h2, -⟩ | ⟨-, -, h3⟩
              · exact absurd (hl1.symm.trans h2) hnq
              · rw [h3, hl1]
            obtain rfl : e2 = e1 := by
              rcases h2 with ⟨h2, -⟩ | ⟨-, -, h3⟩
              · exact absurd (hl2.symm.trans h2) hnq
              · rw [h3, hl2]
            have hn1 : (e2 != 0) = true := by simpa using hnq
            have HV1 := Lib.hid h1
            have HV2 := Lib.hid h2
            clear hqq hnq hl1 hl2 h1 h2 hq
            have F_g := Lib.hid (show Boxed ((w.alloc (.cells #[.int .u64 P, .int .u64 Q, .int .u64 G] 24)).alloc (.cells #[.int .u64 R, .int .u64 S, .int .u64 Z] 26)) (w.heap.size) P Q G from (Boxed.at _ P Q G _ (w.heap.size) (by simp)).alloc _)
            have F_p := Lib.hid (show Arr .u64 ((w.alloc (.cells #[.int .u64 P, .int .u64 Q, .int .u64 G] 24)).alloc (.cells #[.int .u64 R, .int .u64 S, .int .u64 Z] 26)) (w.heap.size + 1) [R, S, Z] from Arr.new .u64 _ [R, S, Z] _ (w.heap.size + 1) (by simp))
            have HBW := Lib.hid (show Below w.heap.size w ((w.alloc (.cells #[.int .u64 P, .int .u64 Q, .int .u64 G] 24)).alloc (.cells #[.int .u64 R, .int .u64 S, .int .u64 Z] 26)) from ((Below.refl _ _).alloc (by simp <;> omega) _).alloc (by simp <;> omega) _)
            go_enter Tryd.func4, Tryd.ntmps4
            obtain ⟨q1_0, q1_1, q1_2, q1_3, q1_4, q1_5⟩ := Arr.k3 F_p.out
            obtain ⟨x0a, x0b, x0c, -⟩ := id F_g.out
            go_wp2_with fail
            clear x0a x0b x0c q1_0 q1_1 q1_2 q1_3 q1_4 q1_5
            refine (alive_yes _).mono ?_
            rintro e w1 ⟨rfl, hb1⟩
            replace F_g := Lib.hid (F_g.out.keep hb1)
            replace F_p := Lib.hid (F_p.out.keep hb1)
            replace HBW := Lib.hid (HBW.out.trans (hb1.mono HBW.out.size))
            clear hb1
            obtain ⟨q1_0, q1_1, q1_2, q1_3, q1_4, q1_5⟩ := Arr.k3 F_p.out
            obtain ⟨x0a, x0b, x0c, -⟩ := id F_g.out
            go_wp2_with fail
            clear x0a x0b x0c q1_0 q1_1 q1_2 q1_3 q1_4 q1_5
            refine (rLong_any _).mono ?_
            rintro e w2 ⟨rfl, rfl⟩
            obtain ⟨q1_0, q1_1, q1_2, q1_3, q1_4, q1_5⟩ := Arr.k3 F_p.out
            obtain ⟨x0a, x0b, x0c, -⟩ := id F_g.out
            go_wp2_with fail
            clear x0a x0b x0c q1_0 q1_1 q1_2 q1_3 q1_4 q1_5
            refine (rLong_any _).mono ?_
            rintro e w3 ⟨rfl, rfl⟩
            obtain ⟨q1_0, q1_1, q1_2, q1_3, q1_4, q1_5⟩ := Arr.k3 F_p.out
            obtain ⟨x0a, x0b, x0c, -⟩ := id F_g.out
            go_wp2_with fail
            clear x0a x0b x0c q1_0 q1_1 q1_2 q1_3 q1_4 q1_5
            refine (peqVerify_any (v := b) (e' := e2) _ (HT.out.keep HBW.out) hP hQ hG y0 a0 d0 R0 S0 Z0 (by omega) HV1.out).mono ?_
            rintro e w4 ⟨rfl, hb4⟩
            replace F_g := Lib.hid (F_g.out.keep hb4)
            replace F_p := Lib.hid (F_p.out.keep hb4)
            replace HBW := Lib.hid (HBW.out.trans (hb4.mono HBW.out.size))
            clear hb4
            obtain ⟨q1_0, q1_1, q1_2, q1_3, q1_4, q1_5⟩ := Arr.k3 F_p.out
            obtain ⟨x0a, x0b, x0c, -⟩ := id F_g.out
            go_wp2_with fail
            clear x0a x0b x0c q1_0 q1_1 q1_2 q1_3 q1_4 q1_5
            refine (peqVerify_any (v := c) (e' := e2) _ (HT2.out.keep HBW.out) hP hQ hG y0 a0 d0 R0 S0 Z0 (by omega) HV2.out).mono ?_
            rintro e w5 ⟨rfl, hb5⟩
            replace F_g := Lib.hid (F_g.out.keep hb5)
            replace F_p := Lib.hid (F_p.out.keep hb5)
            replace HBW := Lib.hid (HBW.out.trans (hb5.mono HBW.out.size))
            clear hb5
            obtain ⟨q1_0, q1_1, q1_2, q1_3, q1_4, q1_5⟩ := Arr.k3 F_p.out
            obtain ⟨x0a, x0b, x0c, -⟩ := id F_g.out
            go_wp2_with fail
            go_ret
            exact ⟨rfl, HBW.out⟩
          case pos =>
            have Z0_ := 0
            obtain ⟨hH, hes, hnn⟩ := askS_zero hq
            have ZQ := hes Z (by simp)
            have HH := Lib.hid hH
            obtain ⟨p5, p3, hQ', pq, g2, gP⟩ := id hH
            have q3 : Q < 1073741824 := by omega
            have yP := hnn y (by simp)
            have aP := hnn a (by simp)
            obtain ⟨hA, hh⟩ : ∃ hA, chV Q [y, a] (flat8 [d, R, S] ++ T) = hA := ⟨_, rfl⟩
            obtain ⟨jB, hj⟩ : ∃ jB, chV Q [y, a] (flat8 [d, R, S] ++ T2) = jB := ⟨_, rfl⟩
            have hfl : ∀ X : List Int, chV Q [y, a] (flat8 [d, R, S] ++ X) = chV Q [y, a, d, R, S] X := fun X => by
              unfold chV
              rw [← List.append_assoc, show flat8 [y, a] ++ flat8 [d, R, S] = flat8 [y, a, d, R, S] from by simp [flat8]]
            have HCV := Lib.hid (show chV Q [y, a, d, R, S] T = hA by rw [← hfl, hh])
            have HCV2 := Lib.hid (show chV Q [y, a, d, R, S] T2 = jB by rw [← hfl, hj])
            obtain ⟨h0, hQQ⟩ : 0 ≤ hA ∧ hA < Q := by rw [← hh]; exact chV_range (by omega) _ _
            have HC1 := Lib.hid (show RetS (lgS (askS P Q G [] [y, a]) ([] ++ flat8 [d, R, S] ++ T).length) (chV Q [y, a] ([] ++ flat8 [d, R, S] ++ T)) hA 0 from .inl ⟨lgS_ok (askS_ok hH (by simp) (by simpa using ⟨yP, aP⟩)) (by rw [List.nil_append, List.length_append, flat8_len, ← HT.out.sh.len]; simp; omega), by rw [List.nil_append, hh], rfl⟩)
            have HC2 := Lib.hid (show RetS (lgS (askS P Q G [] [y, a]) ([] ++ flat8 [d, R, S] ++ T2).length) (chV Q [y, a] ([] ++ flat8 [d, R, S] ++ T2)) jB 0 from .inl ⟨lgS_ok (askS_ok hH (by simp) (by simpa using ⟨yP, aP⟩)) (by rw [List.nil_append, List.length_append, flat8_len, ← HT2.out.sh.len]; simp; omega), by rw [List.nil_append, hj], rfl⟩)
            obtain ⟨ho, eo, hho⟩ := RetB.exists (askS P Q G [Z, hA] [y, a, d, R, S]) (powm G Z P = R * powm y hA P % P ∧ powm a Z P = S * powm d hA P % P)
            have haz : askS P Q G [Z, hA] [y, a, d, R, S] = 0 := askS_ok hH (by simp; omega) hnn
            obtain ⟨rfl, hov⟩ : eo = 0 ∧ (ho = true ↔ powm G Z P = R * powm y hA P % P ∧ powm a Z P = S * powm d hA P % P) := by
              rcases hho with ⟨-, h2, h3⟩ | ⟨h2, -⟩
              · exact ⟨h3, h2⟩
              · exact absurd haz h2
            have HO := Lib.hid hho
            have HOV := Lib.hid hov
            have hl1 := lgS_ok (n := n) hq (by omega)
            have hl2 := lgS_ok (n := n2) hq (by omega)
            obtain ⟨rfl, hb1⟩ : e1 = 0 ∧ (b = true ↔ evP P Q G y a d R S Z T) := by
              rcases h1 with ⟨-, h2, h3⟩ | ⟨h2, -⟩
              · exact ⟨h3, h2⟩
              · exact absurd hl1 h2
            obtain ⟨rfl, hb2⟩ : e2 = 0 ∧ (c = true ↔ evP P Q G y a d R S Z T2) := by
              rcases h2 with ⟨-, h2, h3⟩ | ⟨h2, -⟩
              · exact ⟨h3, h2⟩
              · exact absurd hl2 h2
            have HB1 := Lib.hid hb1
            have HB2 := Lib.hid hb2
            have HV1 := Lib.hid h1
            have HV2 := Lib.hid h2
            clear Z0_ hq hes hnn hH pq hh hj hfl hho haz hov hl1 hl2 hb1 hb2 h1 h2
            have F_g := Lib.hid (show Boxed ((w.alloc (.cells #[.int .u64 P, .int .u64 Q, .int .u64 G] 24)).alloc (.cells #[.int .u64 R, .int .u64 S, .int .u64 Z] 26)) (w.heap.size) P Q G from (Boxed.at _ P Q G _ (w.heap.size) (by simp)).alloc _)
            have F_p := Lib.hid (show Arr .u64 ((w.alloc (.cells #[.int .u64 P, .int .u64 Q, .int .u64 G] 24)).alloc (.cells #[.int .u64 R, .int .u64 S, .int .u64 Z] 26)) (w.heap.size + 1) [R, S, Z] from Arr.new .u64 _ [R, S, Z] _ (w.heap.size + 1) (by simp))
            have HBW := Lib.hid (show Below w.heap.size w ((w.alloc (.cells #[.int .u64 P, .int .u64 Q, .int .u64 G] 24)).alloc (.cells #[.int .u64 R, .int .u64 S, .int .u64 Z] 26)) from ((Below.refl _ _).alloc (by simp <;> omega) _).alloc (by simp <;> omega) _)
            go_enter Tryd.func4, Tryd.ntmps4
            obtain ⟨q1_0, q1_1, q1_2, q1_3, q1_4, q1_5⟩ := Arr.k3 F_p.out
            obtain ⟨x0a, x0b, x0c, -⟩ := id F_g.out
            go_wp2_with fail
            clear x0a x0b x0c q1_0 q1_1 q1_2 q1_3 q1_4 q1_5
            refine (alive_yes _).mono ?_
            rintro e w1 ⟨rfl, hb1⟩
            replace F_g := Lib.hid (F_g.out.keep hb1)
            replace F_p := Lib.hid (F_p.out.keep hb1)
            replace HBW := Lib.hid (HBW.out.trans (hb1.mono HBW.out.size))
            clear hb1
            obtain ⟨q1_0, q1_1, q1_2, q1_3, q1_4, q1_5⟩ := Arr.k3 F_p.out
            obtain ⟨x0a, x0b, x0c, -⟩ := id F_g.out
            go_wp2_with fail
            clear x0a x0b x0c q1_0 q1_1 q1_2 q1_3 q1_4 q1_5
            refine (rLong_any _).mono ?_
            rintro e w2 ⟨rfl, rfl⟩
            obtain ⟨q1_0, q1_1, q1_2, q1_3, q1_4, q1_5⟩ := Arr.k3 F_p.out
            obtain ⟨x0a, x0b, x0c, -⟩ := id F_g.out
            go_wp2_with fail
            clear x0a x0b x0c q1_0 q1_1 q1_2 q1_3 q1_4 q1_5
            refine (rLong_any _).mono ?_
            rintro e w3 ⟨rfl, rfl⟩
            obtain ⟨q1_0, q1_1, q1_2, q1_3, q1_4, q1_5⟩ := Arr.k3 F_p.out
            obtain ⟨x0a, x0b, x0c, -⟩ := id F_g.out
            go_wp2_with fail
            clear x0a x0b x0c q1_0 q1_1 q1_2 q1_3 q1_4 q1_5
            refine (peqVerify_any (v := b) (e' := 0) _ (HT.out.keep HBW.out) hP hQ hG y0 a0 d0 R0 S0 Z0 (by omega) HV1.out).mono ?_
            rintro e w4 ⟨rfl, hb4⟩
            replace F_g := Lib.hid (F_g.out.keep hb4)
            replace F_p := Lib.hid (F_p.out.keep hb4)
            replace HBW := Lib.hid (HBW.out.trans (hb4.mono HBW.out.size))
            clear hb4
            obtain ⟨q1_0, q1_1, q1_2, q1_3, q1_4, q1_5⟩ := Arr.k3 F_p.out
            obtain ⟨x0a, x0b, x0c, -⟩ := id F_g.out
            go_wp2_with fail
            clear x0a x0b x0c q1_0 q1_1 q1_2 q1_3 q1_4 q1_5
            refine (peqVerify_any (v := c) (e' := 0) _ (HT2.out.keep HBW.out) hP hQ hG y0 a0 d0 R0 S0 Z0 (by omega) HV2.out).mono ?_
            rintro e w5 ⟨rfl, hb5⟩
            replace F_g := Lib.hid (F_g.out.keep hb5)
            replace F_p := Lib.hid (F_p.out.keep hb5)
            replace HBW := Lib.hid (HBW.out.trans (hb5.mono HBW.out.size))
            clear hb5
            obtain ⟨q1_0, q1_1, q1_2, q1_3, q1_4, q1_5⟩ := Arr.k3 F_p.out
            obtain ⟨x0a, x0b, x0c, -⟩ := id F_g.out
            go_wp2_with fail
            clear x0a x0b x0c q1_0 q1_1 q1_2 q1_3 q1_4 q1_5
            replace F_g := Lib.hid (F_g.out.alloc (.cells #[.int .u64 a, .int .u64 d, .int .u64 R, .int .u64 S] 22))
            replace F_p := Lib.hid (F_p.out.alloc (.cells #[.int .u64 a, .int .u64 d, .int .u64 R, .int .u64 S] 22))
            have F_nm := Lib.hid (ShL.laid w5 [a, d, R, S] _ 22 _ 4 4 rfl rfl rfl)
            replace HBW := Lib.hid (HBW.out.alloc HBW.out.size (.cells #[.int .u64 a, .int .u64 d, .int .u64 R, .int .u64 S] 22))
            replace F_nm := Lib.hid (show ShL (w5.alloc (.cells #[.int .u64 a, .int .u64 d, .int .u64 R, .int .u64 S] 22)) (some ⟨w5.heap.size, 0, none⟩) 4 4 [a, d, R, S] from F_nm.out)
            generalize (w5.alloc (.cells #[.int .u64 a, .int .u64 d, .int .u64 R, .int .u64 S] 22)) = W0 at F_g F_p HBW F_nm ⊢
            generalize w5.heap.size = bn at F_nm ⊢
            obtain ⟨ns, hns⟩ : ∃ ns : List Int, ns = [a, d, R, S] := ⟨_, rfl⟩
            rw [← hns] at F_nm
            have HNS := Lib.hid hns
            have HL := Lib.hid F_nm.out.len
            have HU := Lib.hid (show ∀ x, x ∈ ns → U64 x by rw [hns]; intro x hx; simp at hx; rcases hx with rfl | rfl | rfl | rfl <;> assumption)
            have HLW := Lib.hid (show w.heap.size ≤ W0.heap.size from HBW.out.size)
            clear hns
            go_loopw [20, 22] (fun c20 c22 wr => ∃ k : Nat, k ≤ 4 ∧ c22 = .int .i64 k ∧ Hid (Grew W0 wr W0.heap.size c20 (flat8 (ns.take k)))) (fun _ c22 _ => 4 - (intOf c22).toNat)
            case atStart => exact ⟨0, by omega, rfl, Grew.nil W0⟩
            case round =>
              obtain ⟨k, hk, rfl, HG⟩ := hrel
              by_cases hlt : k < 4
              case neg =>
                obtain rfl : k = 4 := by omega
                have hll := HL.out
                rw [List.take_of_length_le (by omega)] at HG
                simp only [Int.cast_ofNat_Int]
                clear hlt hll
                have HLX := Lib.hid (show (flat8 ns).length = 32 by rw [flat8_len, ← HL.out])
                obtain ⟨gx, cx, rfl, hge, hgl⟩ := OwnB.some HG.out.own (by rw [HLX.out]; decide)
                have hcx : 32 ≤ cx := by have := OwnB.cap HG.out.own; rw [HLX.out] at this; exact this
                rw [HLX.out]
                have HX := Lib.hid (show ShI .u8 wr (some ⟨gx, 8, none⟩) 24 (flat8 [d, R, S]) from by
                  refine .inr ⟨gx, 8, rfl, by rw [flat8_len]; rfl, hgl, fun i hi => ?_⟩
                  rw [flat8_len] at hi
                  have h1 := OwnB.at HG.out.own (8 + i) (by rw [HLX.out]; simp at hi; omega)
                  rw [h1, HNS.out]
                  rw [show flat8 [a, d, R, S] = be8 a ++ flat8 [d, R, S] from by simp [flat8]]
                  rw [List.getD_eq_getElem?_getD, List.getElem?_append_right (by rw [be8_len]; omega), be8_len, Nat.add_sub_cancel_left, ← List.getD_eq_getElem?_getD])
                have hle := HLW.out
                replace F_g := Lib.hid (F_g.out.keep HG.out.bel)
                replace F_p := Lib.hid (F_p.out.keep HG.out.bel)
                replace HBW := Lib.hid (HBW.out.trans (HG.out.bel.mono HLW.out))
                have hc8 : (8 : Nat) < cx := by omega
                have hc9 : (8 : Int) < (cx : Int) := by omega
                have hc10 : (8 : Nat) ≤ cx := by omega
                have hc11 : (32 : Nat) ≤ cx := hcx
                clear HG hge hgl hcx HNS HLX HL HU F_nm HLW
                try simp only [flat8_len]
                go_wp2_with fail
                replace F_g := Lib.hid F_g.out.drew
                replace F_p := Lib.hid F_p.out.drew
                replace HX := Lib.hid (HX.out.keep (Below.refl _ _).drew)
                replace HBW := Lib.hid HBW.out.drew
                have hS := F_g.out.s
                refine wp_region_stage 9 (fun w' => SBox w' w.heap.size P Q G) (by kernel_rfl) ?_
                generalize wr.drew = wd10 at F_g F_p HX HBW hS ⊢
                refine wpAnyB_take (i := 0) (some 115) (Op.load 24 (Operand.tmp 7)) 24 (v := ?_) ⟨_, rfl, rfl, rfl, rfl, rfl⟩ (by kernel_rfl) (by kernel_rfl) (by kernel_rfl) [9] (by kernel_rfl) (fun _ _ _ hA => hA) hS (fun w' hSw => ?_) ?_
                rotate_left
                · obtain ⟨s0, s1, s2⟩ := hSw
                  unfold bareOp
                  go_simp
                  try with_reducible rfl
                simp only [Act.put, List.setIfInBounds_toArray, List.set_cons_zero, List.set_cons_succ]
                refine wpAnyB_takeP (i := 1) (some 116) (Op.move (Operand.tmp 1)) 22 (v := ?_) ⟨_, rfl, rfl, rfl, rfl, rfl⟩ (by kernel_rfl) (by kernel_rfl) (by kernel_rfl) (by kernel_rfl) (fun _ _ _ hA => hA) (fun _ => hS) (fun w' => ?_) ?_
                rotate_left
                · unfold bareOp
                  go_simp
                  try with_reducible rfl
                simp only [Act.put, List.setIfInBounds_toArray, List.set_cons_zero, List.set_cons_succ]
                refine wpAnyB_takeP (i := 2) (some 117) (Op.move (Operand.tmp 2)) 22 (v := ?_) ⟨_, rfl, rfl, rfl, rfl, rfl⟩ (by kernel_rfl) (by kernel_rfl) (by kernel_rfl) (by kernel_rfl) (fun _ _ _ hA => hA) (fun _ => hS) (fun w' => ?_) ?_
                rotate_left
                · unfold bareOp
                  go_simp
                  try with_reducible rfl
                simp only [Act.put, List.setIfInBounds_toArray, List.set_cons_zero, List.set_cons_succ]
                refine wpAnyB_takeP (i := 4) (some 119) (Op.move (Operand.tmp 20)) 27 (v := ?_) ⟨_, rfl, rfl, rfl, rfl, rfl⟩ (by kernel_rfl) (by kernel_rfl) (by kernel_rfl) (by kernel_rfl) (fun _ _ _ hA => hA) (fun _ => hS) (fun w' => ?_) ?_
                rotate_left
                · unfold bareOp
                  go_simp
                  try with_reducible rfl
                simp only [Act.put, List.setIfInBounds_toArray, List.set_cons_zero, List.set_cons_succ]
                refine wpAnyB_takeP (i := 5) (some 120) (Op.slice 27 (Operand.tmp 119) (some (Operand.const (Value.int IntKind.i64 8))) none none) 27 (v := ?_) ⟨_, rfl, rfl, rfl, rfl, rfl⟩ (by kernel_rfl) (by kernel_rfl) (by kernel_rfl) (by kernel_rfl) (fun _ _ _ hA => hA) (fun _ => hS) (fun w' => ?_) ?_
                rotate_left
                · unfold bareOp
                  go_simp
                  try with_reducible rfl
                simp only [Act.put, List.setIfInBounds_toArray, List.set_cons_zero, List.set_cons_succ]
                refine wpAnyB_takeP (i := 7) (some 122) (Op.move (Operand.tmp 5)) 27 (v := ?_) ⟨_, rfl, rfl, rfl, rfl, rfl⟩ (by kernel_rfl) (by kernel_rfl) (by kernel_rfl) (by kernel_rfl) (fun _ _ _ hA => hA) (fun _ => hS) (fun w' => ?_) ?_
                rotate_left
                · unfold bareOp
                  go_simp
                  try with_reducible rfl
                simp only [Act.put, List.setIfInBounds_toArray, List.set_cons_zero, List.set_cons_succ]
                refine wpAnyB_only (i := 3) (some 118) (Op.buildSlice 27 0 #[]) 27 ⟨_, rfl, rfl, rfl, rfl, rfl⟩ (by kernel_rfl) (fun K hK => ?_)
                unfold bareOp
                go_wp2_with fail
                have HG0 := Lib.hid (show Grew wd10 (wd10.alloc (.cells #[] 5)) wd10.heap.size (.slice (some ⟨wd10.heap.size, 0, none⟩) 0 0) [] from ⟨World.ownsRow_lit wd10 #[] 0 (Nat.le_refl _) (by decide) rfl, (Below.refl _ _).alloc (Nat.le_refl _) _, by simp⟩)
                replace hS := (F_g.out.keep HG0.out.bel).s
                refine hK.out _ _ (fun _ => hS) ?_
                clear hK K
                try simp only [Act.put, List.setIfInBounds_toArray, List.set_cons_zero, List.set_cons_succ]
                refine wpAnyB_only (i := 6) (some 121) (Op.call { callee := Callee.builtin Builtin.append, args := #[Operand.tmp 118, Operand.tmp 120], argTypes := #[27, 27] }) 27 ⟨_, rfl, rfl, rfl, rfl, rfl⟩ (by kernel_rfl) (fun K hK => ?_)
                unfold bareOp
                refine wp_append_sh _ _ rfl wd10.heap.size (.slice (some ⟨wd10.heap.size, 0, none⟩) 0 0) [] (flat8 [d, R, S]) (some ⟨gx, 8, none⟩) 24 (cx - 8) (by kernel_rfl) (by kernel_rfl) HG0.out.own (HX.out.keep HG0.out.bel) (by omega) (by simp) HG0.out.le ?_
                intro va w11 hown hgr
                have HG1 := Lib.hid (HG0.out.app hown hgr)
                clear hown hgr HG0
                replace hS := (F_g.out.keep HG1.out.bel).s
                refine hK.out _ _ (fun _ => hS) ?_
                clear hK K
                try simp only [Act.put, List.setIfInBounds_toArray, List.set_cons_zero, List.set_cons_succ]
                refine wpAnyB_only (i := 8) (some 123) (Op.call { callee := Callee.builtin Builtin.append, args := #[Operand.tmp 121, Operand.tmp 122], argTypes := #[27, 27] }) 27 ⟨_, rfl, rfl, rfl, rfl, rfl⟩ (by kernel_rfl) (fun K hK => ?_)
                unfold bareOp
                refine wp_append_sh _ _ rfl wd10.heap.size va ([] ++ flat8 [d, R, S]) T tx n cp (by kernel_rfl) (by kernel_rfl) HG1.out.own ((HT.out.keep (HBW.out.trans (HG1.out.bel.mono HBW.out.size))).sh) (by omega) (by rw [List.nil_append, flat8_len]; simp) HG1.out.le ?_
                intro vb w12 hown hgr
                have HG2 := Lib.hid (HG1.out.app hown hgr)
                clear hown hgr HG1
                replace hS := (F_g.out.keep HG2.out.bel).s
                refine hK.out _ _ (fun _ => hS) ?_
                clear hK K
                try simp only [Act.put, List.setIfInBounds_toArray, List.set_cons_zero, List.set_cons_succ]
                refine wpAnyB_only (i := 9) (some 124) (Op.call { callee := Callee.value (Operand.func 17), args := #[Operand.tmp 115, Operand.tmp 116, Operand.tmp 117, Operand.tmp 123], argTypes := #[24, 22, 22, 27] }) 43 ⟨_, rfl, rfl, rfl, rfl, rfl⟩ (by kernel_rfl) (fun K hK => ?_)
                unfold bareOp
                replace F_g := Lib.hid (F_g.out.keep HG2.out.bel)
                replace F_p := Lib.hid (F_p.out.keep HG2.out.bel)
                replace HX := Lib.hid (HX.out.keep HG2.out.bel)
                replace HBW := Lib.hid (HBW.out.trans (HG2.out.bel.mono HBW.out.size))
                obtain ⟨a3, c3, rfl, S3⟩ := HG2.out.own.shi
                clear HG2
                have HN8 := Lib.hid (show ([] ++ flat8 [d, R, S] ++ T).length ≤ 8100 by rw [List.nil_append, List.length_append, flat8_len, ← HT.out.sh.len]; simp; omega)
                have HB8 := Lib.hid (show ByteL ([] ++ flat8 [d, R, S] ++ T) from ((flat8_bytes [d, R, S]).append HT.out.by8))
                have HCX := HC1
                generalize [] ++ flat8 [d, R, S] ++ T = M at S3 HN8 HB8 HCX ⊢
                generalize M.length = nm at S3 HN8 HCX ⊢
                have hn81 := HN8.out
                go_wp2_with (go_at_call 17; refine (schallenge_any _ ⟨(HT.out.keep HBW.out).tabs, S3, HB8.out⟩ hP hQ hG uy ua hn81 HCX.out).mono ?_; rintro e w19 ⟨rfl, hbc⟩)
                replace F_g := Lib.hid (F_g.out.keep hbc)
                replace F_p := Lib.hid (F_p.out.keep hbc)
                replace HX := Lib.hid (HX.out.keep hbc)
                replace HBW := Lib.hid (HBW.out.trans (hbc.mono HBW.out.size))
                replace hS := F_g.out.s
                clear hbc S3 HN8 HB8 HCX hn81
                refine hK.out _ _ (fun hA => absurd (hA.symm.trans (by kernel_rfl : _ = true)) (by decide)) ?_
                clear hK K
                try simp only [Act.put, List.setIfInBounds_toArray, List.set_cons_zero, List.set_cons_succ]
                refine wpAnyB_takeP (i := 10) (some 114) (Op.move (Operand.tmp 124)) 43 (v := ?_) ⟨_, rfl, rfl, rfl, rfl, rfl⟩ (by kernel_rfl) (by kernel_rfl) (by kernel_rfl) (by kernel_rfl) (fun _ _ _ hA => hA) (fun hA => absurd (hA.symm.trans (by kernel_rfl : _ = true)) (by decide)) (fun w' => ?_) ?_
                rotate_left
                · unfold bareOp
                  go_simp
                  try with_reducible rfl
                simp only [Act.put, List.setIfInBounds_toArray, List.set_cons_zero, List.set_cons_succ]
                refine wpAnyB_takeP (i := 11) (some 125) (Op.extract (Operand.tmp 114) 0) 22 (v := ?_) ⟨_, rfl, rfl, rfl, rfl, rfl⟩ (by kernel_rfl) (by kernel_rfl) (by kernel_rfl) (by kernel_rfl) (fun _ _ _ hA => hA) (fun hA => absurd (hA.symm.trans (by kernel_rfl : _ = true)) (by decide)) (fun w' => ?_) ?_
                rotate_left
                · unfold bareOp
                  go_simp
                  try with_reducible rfl
                simp only [Act.put, List.setIfInBounds_toArray, List.set_cons_zero, List.set_cons_succ]
                refine wpAnyB_takeP (i := 12) (some 126) (Op.extract (Operand.tmp 114) 1) 29 (v := ?_) ⟨_, rfl, rfl, rfl, rfl, rfl⟩ (by kernel_rfl) (by kernel_rfl) (by kernel_rfl) (by kernel_rfl) (fun _ _ _ hA => hA) (fun hA => absurd (hA.symm.trans (by kernel_rfl : _ = true)) (by decide)) (fun w' => ?_) ?_
                rotate_left
                · unfold bareOp
                  go_simp
                  try with_reducible rfl
                simp only [Act.put, List.setIfInBounds_toArray, List.set_cons_zero, List.set_cons_succ]
                refine wpAnyB_takeP (i := 13) (some 24) (Op.assign (Operand.tmp 125)) 22 (v := ?_) ⟨_, rfl, rfl, rfl, rfl, rfl⟩ (by kernel_rfl) (by kernel_rfl) (by kernel_rfl) (by kernel_rfl) (fun _ _ _ hA => hA) (fun hA => absurd (hA.symm.trans (by kernel_rfl : _ = true)) (by decide)) (fun w' => ?_) ?_
                rotate_left
                · unfold bareOp
                  go_simp
                  try with_reducible rfl
                simp only [Act.put, List.setIfInBounds_toArray, List.set_cons_zero, List.set_cons_succ]
                refine wpAnyB_takeP (i := 14) (some 25) (Op.assign (Operand.tmp 126)) 29 (v := ?_) ⟨_, rfl, rfl, rfl, rfl, rfl⟩ (by kernel_rfl) (by kernel_rfl) (by kernel_rfl) (by kernel_rfl) (fun _ _ _ hA => hA) (fun hA => absurd (hA.symm.trans (by kernel_rfl : _ = true)) (by decide)) (fun w' => ?_) ?_
                rotate_left
                · unfold bareOp
                  go_simp
                  try with_reducible rfl
                simp only [Act.put, List.setIfInBounds_toArray, List.set_cons_zero, List.set_cons_succ]
                refine wpAnyB_done (by kernel_rfl) ?_ _
                clear hS
                go_wp2_with fail
                replace F_g := Lib.hid F_g.out.drew
                replace F_p := Lib.hid F_p.out.drew
                replace HX := Lib.hid (HX.out.keep (Below.refl _ _).drew)
                replace HBW := Lib.hid HBW.out.drew
                have hS := F_g.out.s
                refine wp_region_stage 9 (fun w' => SBox w' w.heap.size P Q G) (by kernel_rfl) ?_
                generalize w19.drew = wd20 at F_g F_p HX HBW hS ⊢
                refine wpAnyB_take (i := 0) (some 128) (Op.load 24 (Operand.tmp 7)) 24 (v := ?_) ⟨_, rfl, rfl, rfl, rfl, rfl⟩ (by kernel_rfl) (by kernel_rfl) (by kernel_rfl) [9] (by kernel_rfl) (fun _ _ _ hA => hA) hS (fun w' hSw => ?_) ?_
                rotate_left
                · obtain ⟨s0, s1, s2⟩ := hSw
                  unfold bareOp
                  go_simp
                  try with_reducible rfl
                simp only [Act.put, List.setIfInBounds_toArray, List.set_cons_zero, List.set_cons_succ]
                refine wpAnyB_takeP (i := 1) (some 129) (Op.move (Operand.tmp 1)) 22 (v := ?_) ⟨_, rfl, rfl, rfl, rfl, rfl⟩ (by kernel_rfl) (by kernel_rfl) (by kernel_rfl) (by kernel_rfl) (fun _ _ _ hA => hA) (fun _ => hS) (fun w' => ?_) ?_
                rotate_left
                · unfold bareOp
                  go_simp
                  try with_reducible rfl
                simp only [Act.put, List.setIfInBounds_toArray, List.set_cons_zero, List.set_cons_succ]
                refine wpAnyB_takeP (i := 2) (some 130) (Op.move (Operand.tmp 2)) 22 (v := ?_) ⟨_, rfl, rfl, rfl, rfl, rfl⟩ (by kernel_rfl) (by kernel_rfl) (by kernel_rfl) (by kernel_rfl) (fun _ _ _ hA => hA) (fun _ => hS) (fun w' => ?_) ?_
                rotate_left
                · unfold bareOp
                  go_simp
                  try with_reducible rfl
                simp only [Act.put, List.setIfInBounds_toArray, List.set_cons_zero, List.set_cons_succ]
                refine wpAnyB_takeP (i := 4) (some 132) (Op.move (Operand.tmp 20)) 27 (v := ?_) ⟨_, rfl, rfl, rfl, rfl, rfl⟩ (by kernel_rfl) (by kernel_rfl) (by kernel_rfl) (by kernel_rfl) (fun _ _ _ hA => hA) (fun _ => hS) (fun w' => ?_) ?_
                rotate_left
                · unfold bareOp
                  go_simp
                  try with_reducible rfl
                simp only [Act.put, List.setIfInBounds_toArray, List.set_cons_zero, List.set_cons_succ]
                refine wpAnyB_takeP (i := 5) (some 133) (Op.slice 27 (Operand.tmp 132) (some (Operand.const (Value.int IntKind.i64 8))) none none) 27 (v := ?_) ⟨_, rfl, rfl, rfl, rfl, rfl⟩ (by kernel_rfl) (by kernel_rfl) (by kernel_rfl) (by kernel_rfl) (fun _ _ _ hA => hA) (fun _ => hS) (fun w' => ?_) ?_
                rotate_left
                · unfold bareOp
                  go_simp
                  try with_reducible rfl
                simp only [Act.put, List.setIfInBounds_toArray, List.set_cons_zero, List.set_cons_succ]
                refine wpAnyB_takeP (i := 7) (some 135) (Op.move (Operand.tmp 6)) 27 (v := ?_) ⟨_, rfl, rfl, rfl, rfl, rfl⟩ (by kernel_rfl) (by kernel_rfl) (by kernel_rfl) (by kernel_rfl) (fun _ _ _ hA => hA) (fun _ => hS) (fun w' => ?_) ?_
                rotate_left
                · unfold bareOp
                  go_simp
                  try with_reducible rfl
                simp only [Act.put, List.setIfInBounds_toArray, List.set_cons_zero, List.set_cons_succ]
                refine wpAnyB_only (i := 3) (some 131) (Op.buildSlice 27 0 #[]) 27 ⟨_, rfl, rfl, rfl, rfl, rfl⟩ (by kernel_rfl) (fun K hK => ?_)
                unfold bareOp
                go_wp2_with fail
                have HG0 := Lib.hid (show Grew wd20 (wd20.alloc (.cells #[] 5)) wd20.heap.size (.slice (some ⟨wd20.heap.size, 0, none⟩) 0 0) [] from ⟨World.ownsRow_lit wd20 #[] 0 (Nat.le_refl _) (by decide) rfl, (Below.refl _ _).alloc (Nat.le_refl _) _, by simp⟩)
                replace hS := (F_g.out.keep HG0.out.bel).s
                refine hK.out _ _ (fun _ => hS) ?_
                clear hK K
                try simp only [Act.put, List.setIfInBounds_toArray, List.set_cons_zero, List.set_cons_succ]
                refine wpAnyB_only (i := 6) (some 134) (Op.call { callee := Callee.builtin Builtin.append, args := #[Operand.tmp 131, Operand.tmp 133], argTypes := #[27, 27] }) 27 ⟨_, rfl, rfl, rfl, rfl, rfl⟩ (by kernel_rfl) (fun K hK => ?_)
                unfold bareOp
                refine wp_append_sh _ _ rfl wd20.heap.size (.slice (some ⟨wd20.heap.size, 0, none⟩) 0 0) [] (flat8 [d, R, S]) (some ⟨gx, 8, none⟩) 24 (cx - 8) (by kernel_rfl) (by kernel_rfl) HG0.out.own (HX.out.keep HG0.out.bel) (by omega) (by simp) HG0.out.le ?_
                intro va w21 hown hgr
                have HG1 := Lib.hid (HG0.out.app hown hgr)
                clear hown hgr HG0
                replace hS := (F_g.out.keep HG1.out.bel).s
                refine hK.out _ _ (fun _ => hS) ?_
                clear hK K
                try simp only [Act.put, List.setIfInBounds_toArray, List.set_cons_zero, List.set_cons_succ]
                refine wpAnyB_only (i := 8) (some 136) (Op.call { callee := Callee.builtin Builtin.append, args := #[Operand.tmp 134, Operand.tmp 135], argTypes := #[27, 27] }) 27 ⟨_, rfl, rfl, rfl, rfl, rfl⟩ (by kernel_rfl) (fun K hK => ?_)
                unfold bareOp
                refine wp_append_sh _ _ rfl wd20.heap.size va ([] ++ flat8 [d, R, S]) T2 tx2 n2 cp2 (by kernel_rfl) (by kernel_rfl) HG1.out.own ((HT2.out.keep (HBW.out.trans (HG1.out.bel.mono HBW.out.size))).sh) (by omega) (by rw [List.nil_append, flat8_len]; simp) HG1.out.le ?_
                intro vb w22 hown hgr
                have HG2 := Lib.hid (HG1.out.app hown hgr)
                clear hown hgr HG1
                replace hS := (F_g.out.keep HG2.out.bel).s
                refine hK.out _ _ (fun _ => hS) ?_
                clear hK K
                try simp only [Act.put, List.setIfInBounds_toArray, List.set_cons_zero, List.set_cons_succ]
                refine wpAnyB_only (i := 9) (some 137) (Op.call { callee := Callee.value (Operand.func 17), args := #[Operand.tmp 128, Operand.tmp 129, Operand.tmp 130, Operand.tmp 136], argTypes := #[24, 22, 22, 27] }) 43 ⟨_, rfl, rfl, rfl, rfl, rfl⟩ (by kernel_rfl) (fun K hK => ?_)
                unfold bareOp
                replace F_g := Lib.hid (F_g.out.keep HG2.out.bel)
                replace F_p := Lib.hid (F_p.out.keep HG2.out.bel)
                replace HX := Lib.hid (HX.out.keep HG2.out.bel)
                replace HBW := Lib.hid (HBW.out.trans (HG2.out.bel.mono HBW.out.size))
                obtain ⟨a3, c3, rfl, S3⟩ := HG2.out.own.shi
                clear HG2
                have HN8 := Lib.hid (show ([] ++ flat8 [d, R, S] ++ T2).length ≤ 8100 by rw [List.nil_append, List.length_append, flat8_len, ← HT2.out.sh.len]; simp; omega)
                have HB8 := Lib.hid (show ByteL ([] ++ flat8 [d, R, S] ++ T2) from ((flat8_bytes [d, R, S]).append HT2.out.by8))
                have HCX := HC2
                generalize [] ++ flat8 [d, R, S] ++ T2 = M at S3 HN8 HB8 HCX ⊢
                generalize M.length = nm at S3 HN8 HCX ⊢
                have hn81 := HN8.out
                go_wp2_with (go_at_call 17; refine (schallenge_any _ ⟨(HT2.out.keep HBW.out).tabs, S3, HB8.out⟩ hP hQ hG uy ua hn81 HCX.out).mono ?_; rintro e w29 ⟨rfl, hbc⟩)
                replace F_g := Lib.hid (F_g.out.keep hbc)
                replace F_p := Lib.hid (F_p.out.keep hbc)
                replace HX := Lib.hid (HX.out.keep hbc)
                replace HBW := Lib.hid (HBW.out.trans (hbc.mono HBW.out.size))
                replace hS := F_g.out.s
                clear hbc S3 HN8 HB8 HCX hn81
                refine hK.out _ _ (fun hA => absurd (hA.symm.trans (by kernel_rfl : _ = true)) (by decide)) ?_
                clear hK K
                try simp only [Act.put, List.setIfInBounds_toArray, List.set_cons_zero, List.set_cons_succ]
                refine wpAnyB_takeP (i := 10) (some 127) (Op.move (Operand.tmp 137)) 43 (v := ?_) ⟨_, rfl, rfl, rfl, rfl, rfl⟩ (by kernel_rfl) (by kernel_rfl) (by kernel_rfl) (by kernel_rfl) (fun _ _ _ hA => hA) (fun hA => absurd (hA.symm.trans (by kernel_rfl : _ = true)) (by decide)) (fun w' => ?_) ?_
                rotate_left
                · unfold bareOp
                  go_simp
                  try with_reducible rfl
                simp only [Act.put, List.setIfInBounds_toArray, List.set_cons_zero, List.set_cons_succ]
                refine wpAnyB_takeP (i := 11) (some 138) (Op.extract (Operand.tmp 127) 0) 22 (v := ?_) ⟨_, rfl, rfl, rfl, rfl, rfl⟩ (by kernel_rfl) (by kernel_rfl) (by kernel_rfl) (by kernel_rfl) (fun _ _ _ hA => hA) (fun hA => absurd (hA.symm.trans (by kernel_rfl : _ = true)) (by decide)) (fun w' => ?_) ?_
                rotate_left
                · unfold bareOp
                  go_simp
                  try with_reducible rfl
                simp only [Act.put, List.setIfInBounds_toArray, List.set_cons_zero, List.set_cons_succ]
                refine wpAnyB_takeP (i := 12) (some 139) (Op.extract (Operand.tmp 127) 1) 29 (v := ?_) ⟨_, rfl, rfl, rfl, rfl, rfl⟩ (by kernel_rfl) (by kernel_rfl) (by kernel_rfl) (by kernel_rfl) (fun _ _ _ hA => hA) (fun hA => absurd (hA.symm.trans (by kernel_rfl : _ = true)) (by decide)) (fun w' => ?_) ?_
                rotate_left
                · unfold bareOp
                  go_simp
                  try with_reducible rfl
                simp only [Act.put, List.setIfInBounds_toArray, List.set_cons_zero, List.set_cons_succ]
                refine wpAnyB_takeP (i := 13) (some 26) (Op.assign (Operand.tmp 138)) 22 (v := ?_) ⟨_, rfl, rfl, rfl, rfl, rfl⟩ (by kernel_rfl) (by kernel_rfl) (by kernel_rfl) (by kernel_rfl) (fun _ _ _ hA => hA) (fun hA => absurd (hA.symm.trans (by kernel_rfl : _ = true)) (by decide)) (fun w' => ?_) ?_
                rotate_left
                · unfold bareOp
                  go_simp
                  try with_reducible rfl
                simp only [Act.put, List.setIfInBounds_toArray, List.set_cons_zero, List.set_cons_succ]
                refine wpAnyB_takeP (i := 14) (some 27) (Op.assign (Operand.tmp 139)) 29 (v := ?_) ⟨_, rfl, rfl, rfl, rfl, rfl⟩ (by kernel_rfl) (by kernel_rfl) (by kernel_rfl) (by kernel_rfl) (fun _ _ _ hA => hA) (fun hA => absurd (hA.symm.trans (by kernel_rfl : _ = true)) (by decide)) (fun w' => ?_) ?_
                rotate_left
                · unfold bareOp
                  go_simp
                  try with_reducible rfl
                simp only [Act.put, List.setIfInBounds_toArray, List.set_cons_zero, List.set_cons_succ]
                refine wpAnyB_done (by kernel_rfl) ?_ _
                clear hS
                by_cases he : hA = jB
                case neg =>
                  have hne : (hA != jB) = true := by simpa using he
                  clear he
                  by_cases hm : Mem P Q y
                  case neg =>
                    have HM_y := Lib.hid hm
                    clear hm
                    have HZ := Lib.hid (show b = false by rw [Bool.eq_false_iff]; intro hA; exact HM_y.out ((HB1.out.1 hA).1 y (by simp)))
                    obtain rfl := HZ.out
                    have HZ2 := Lib.hid (show c = false by rw [Bool.eq_false_iff]; intro hA; exact HM_y.out ((HB2.out.1 hA).1 y (by simp)))
                    obtain rfl := HZ2.out
                    clear HZ HZ2
                    obtain ⟨q1_0, q1_1, q1_2, q1_3, q1_4, q1_5⟩ := Arr.k3 F_p.out
                    obtain ⟨x0a, x0b, x0c, -⟩ := id F_g.out
                    go_wp2_with fail
                    clear x0a x0b x0c q1_0 q1_1 q1_2 q1_3 q1_4 q1_5
                    refine (equalHolds_any (v := ho) (e' := 0) _ hP hQ hG y0 a0 d0 R0 S0 Z0 h0 HO.out).mono ?_
                    rintro e w31 ⟨rfl, hb31⟩
                    replace F_g := Lib.hid (F_g.out.keep hb31)
                    replace F_p := Lib.hid (F_p.out.keep hb31)
                    replace HBW := Lib.hid (HBW.out.trans (hb31.mono HBW.out.size))
                    clear hb31
                    obtain ⟨q1_0, q1_1, q1_2, q1_3, q1_4, q1_5⟩ := Arr.k3 F_p.out
                    obtain ⟨x0a, x0b, x0c, -⟩ := id F_g.out
                    go_wp2_with fail
                    clear x0a x0b x0c q1_0 q1_1 q1_2 q1_3 q1_4 q1_5
                    refine (member_is (r := false) _ hP hQ hG y0 (by simp [HM_y.out])).mono ?_
                    rintro e w32 ⟨rfl, hb32⟩
                    replace F_g := Lib.hid (F_g.out.keep hb32)
                    replace F_p := Lib.hid (F_p.out.keep hb32)
                    replace HBW := Lib.hid (HBW.out.trans (hb32.mono HBW.out.size))
                    clear hb32
                    obtain ⟨q1_0, q1_1, q1_2, q1_3, q1_4, q1_5⟩ := Arr.k3 F_p.out
                    obtain ⟨x0a, x0b, x0c, -⟩ := id F_g.out
                    go_wp2_with fail
                    go_ret
                    exact ⟨rfl, HBW.out⟩
                  case pos =>
                    have HM_y := Lib.hid hm
                    clear hm
                    by_cases hm : Mem P Q a
                    case neg =>
                      have HM_a := Lib.hid hm
                      clear hm
                      have HZ := Lib.hid (show b = false by rw [Bool.eq_false_iff]; intro hA; exact HM_a.out ((HB1.out.1 hA).1 a (by simp)))
                      obtain rfl := HZ.out
                      have HZ2 := Lib.hid (show c = false by rw [Bool.eq_false_iff]; intro hA; exact HM_a.out ((HB2.out.1 hA).1 a (by simp)))
                      obtain rfl := HZ2.out
                      clear HZ HZ2
                      obtain ⟨q1_0, q1_1, q1_2, q1_3, q1_4, q1_5⟩ := Arr.k3 F_p.out
                      obtain ⟨x0a, x0b, x0c, -⟩ := id F_g.out
                      go_wp2_with fail
                      clear x0a x0b x0c q1_0 q1_1 q1_2 q1_3 q1_4 q1_5
                      refine (equalHolds_any (v := ho) (e' := 0) _ hP hQ hG y0 a0 d0 R0 S0 Z0 h0 HO.out).mono ?_
                      rintro e w31 ⟨rfl, hb31⟩
                      replace F_g := Lib.hid (F_g.out.keep hb31)
                      replace F_p := Lib.hid (F_p.out.keep hb31)
                      replace HBW := Lib.hid (HBW.out.trans (hb31.mono HBW.out.size))
                      clear hb31
                      obtain ⟨q1_0, q1_1, q1_2, q1_3, q1_4, q1_5⟩ := Arr.k3 F_p.out
                      obtain ⟨x0a, x0b, x0c, -⟩ := id F_g.out
                      go_wp2_with fail
                      clear x0a x0b x0c q1_0 q1_1 q1_2 q1_3 q1_4 q1_5
                      refine (member_is (r := true) _ hP hQ hG y0 (by simp [HM_y.out, HH.out])).mono ?_
                      rintro e w32 ⟨rfl, hb32⟩
                      replace F_g := Lib.hid (F_g.out.keep hb32)
                      replace F_p := Lib.hid (F_p.out.keep hb32)
                      replace HBW := Lib.hid (HBW.out.trans (hb32.mono HBW.out.size))
                      clear hb32
                      obtain ⟨q1_0, q1_1, q1_2, q1_3, q1_4, q1_5⟩ := Arr.k3 F_p.out
                      obtain ⟨x0a, x0b, x0c, -⟩ := id F_g.out
                      go_wp2_with fail
                      clear x0a x0b x0c q1_0 q1_1 q1_2 q1_3 q1_4 q1_5
                      refine (member_is (r := false) _ hP hQ hG a0 (by simp [HM_a.out])).mono ?_
                      rintro e w33 ⟨rfl, hb33⟩
                      replace F_g := Lib.hid (F_g.out.keep hb33)
                      replace F_p := Lib.hid (F_p.out.keep hb33)
                      replace HBW := Lib.hid (HBW.out.trans (hb33.mono HBW.out.size))
                      clear hb33
                      obtain ⟨q1_0, q1_1, q1_2, q1_3, q1_4, q1_5⟩ := Arr.k3 F_p.out
                      obtain ⟨x0a, x0b, x0c, -⟩ := id F_g.out
                      go_wp2_with fail
                      go_ret
                      exact ⟨rfl, HBW.out⟩
                    case pos =>
                      have HM_a := Lib.hid hm
                      clear hm
                      by_cases hm : Mem P Q d
                      case neg =>
                        have HM_d := Lib.hid hm
                        clear hm
                        have HZ := Lib.hid (show b = false by rw [Bool.eq_false_iff]; intro hA; exact HM_d.out ((HB1.out.1 hA).1 d (by simp)))
                        obtain rfl := HZ.out
                        have HZ2 := Lib.hid (show c = false by rw [Bool.eq_false_iff]; intro hA; exact HM_d.out ((HB2.out.1 hA).1 d (by simp)))
                        obtain rfl := HZ2.out
                        clear HZ HZ2
                        obtain ⟨q1_0, q1_1, q1_2, q1_3, q1_4, q1_5⟩ := Arr.k3 F_p.out
                        obtain ⟨x0a, x0b, x0c, -⟩ := id F_g.out
                        go_wp2_with fail
                        clear x0a x0b x0c q1_0 q1_1 q1_2 q1_3 q1_4 q1_5
                        refine (equalHolds_any (v := ho) (e' := 0) _ hP hQ hG y0 a0 d0 R0 S0 Z0 h0 HO.out).mono ?_
                        rintro e w31 ⟨rfl, hb31⟩
                        replace F_g := Lib.hid (F_g.out.keep hb31)
                        replace F_p := Lib.hid (F_p.out.keep hb31)
                        replace HBW := Lib.hid (HBW.out.trans (hb31.mono HBW.out.size))
                        clear hb31
                        obtain ⟨q1_0, q1_1, q1_2, q1_3, q1_4, q1_5⟩ := Arr.k3 F_p.out
                        obtain ⟨x0a, x0b, x0c, -⟩ := id F_g.out
                        go_wp2_with fail
                        clear x0a x0b x0c q1_0 q1_1 q1_2 q1_3 q1_4 q1_5
                        refine (member_is (r := true) _ hP hQ hG y0 (by simp [HM_y.out, HH.out])).mono ?_
                        rintro e w32 ⟨rfl, hb32⟩
                        replace F_g := Lib.hid (F_g.out.keep hb32)
                        replace F_p := Lib.hid (F_p.out.keep hb32)
                        replace HBW := Lib.hid (HBW.out.trans (hb32.mono HBW.out.size))
                        clear hb32
                        obtain ⟨q1_0, q1_1, q1_2, q1_3, q1_4, q1_5⟩ := Arr.k3 F_p.out
                        obtain ⟨x0a, x0b, x0c, -⟩ := id F_g.out
                        go_wp2_with fail
                        clear x0a x0b x0c q1_0 q1_1 q1_2 q1_3 q1_4 q1_5
                        refine (member_is (r := true) _ hP hQ hG a0 (by simp [HM_a.out, HH.out])).mono ?_
                        rintro e w33 ⟨rfl, hb33⟩
                        replace F_g := Lib.hid (F_g.out.keep hb33)
                        replace F_p := Lib.hid (F_p.out.keep hb33)
                        replace HBW := Lib.hid (HBW.out.trans (hb33.mono HBW.out.size))
                        clear hb33
                        obtain ⟨q1_0, q1_1, q1_2, q1_3, q1_4, q1_5⟩ := Arr.k3 F_p.out
                        obtain ⟨x0a, x0b, x0c, -⟩ := id F_g.out
                        go_wp2_with fail
                        clear x0a x0b x0c q1_0 q1_1 q1_2 q1_3 q1_4 q1_5
                        refine (member_is (r := false) _ hP hQ hG d0 (by simp [HM_d.out])).mono ?_
                        rintro e w34 ⟨rfl, hb34⟩
                        replace F_g := Lib.hid (F_g.out.keep hb34)
                        replace F_p := Lib.hid (F_p.out.keep hb34)
                        replace HBW := Lib.hid (HBW.out.trans (hb34.mono HBW.out.size))
                        clear hb34
                        obtain ⟨q1_0, q1_1, q1_2, q1_3, q1_4, q1_5⟩ := Arr.k3 F_p.out
                        obtain ⟨x0a, x0b, x0c, -⟩ := id F_g.out
                        go_wp2_with fail
                        go_ret
                        exact ⟨rfl, HBW.out⟩
                      case pos =>
                        have HM_d := Lib.hid hm
                        clear hm
                        by_cases hm : Mem P Q R
                        case neg =>
                          have HM_R := Lib.hid hm
                          clear hm
                          have HZ := Lib.hid (show b = false by rw [Bool.eq_false_iff]; intro hA; exact HM_R.out ((HB1.out.1 hA).1 R (by simp)))
                          obtain rfl := HZ.out
                          have HZ2 := Lib.hid (show c = false by rw [Bool.eq_false_iff]; intro hA; exact HM_R.out ((HB2.out.1 hA).1 R (by simp)))
                          obtain rfl := HZ2.out
                          clear HZ HZ2
                          obtain ⟨q1_0, q1_1, q1_2, q1_3, q1_4, q1_5⟩ := Arr.k3 F_p.out
                          obtain ⟨x0a, x0b, x0c, -⟩ := id F_g.out
                          go_wp2_with fail
                          clear x0a x0b x0c q1_0 q1_1 q1_2 q1_3 q1_4 q1_5
                          refine (equalHolds_any (v := ho) (e' := 0) _ hP hQ hG y0 a0 d0 R0 S0 Z0 h0 HO.out).mono ?_
                          rintro e w31 ⟨rfl, hb31⟩
                          replace F_g := Lib.hid (F_g.out.keep hb31)
                          replace F_p := Lib.hid (F_p.out.keep hb31)
                          replace HBW := Lib.hid (HBW.out.trans (hb31.mono HBW.out.size))
                          clear hb31
                          obtain ⟨q1_0, q1_1, q1_2, q1_3, q1_4, q1_5⟩ := Arr.k3 F_p.out
                          obtain ⟨x0a, x0b, x0c, -⟩ := id F_g.out
                          go_wp2_with fail
                          clear x0a x0b x0c q1_0 q1_1 q1_2 q1_3 q1_4 q1_5
                          refine (member_is (r := true) _ hP hQ hG y0 (by simp [HM_y.out, HH.out])).mono ?_
                          rintro e w32 ⟨rfl, hb32⟩
                          replace F_g := Lib.hid (F_g.out.keep hb32)
                          replace F_p := Lib.hid (F_p.out.keep hb32)
                          replace HBW := Lib.hid (HBW.out.trans (hb32.mono HBW.out.size))
                          clear hb32
                          obtain ⟨q1_0, q1_1, q1_2, q1_3, q1_4, q1_5⟩ := Arr.k3 F_p.out
                          obtain ⟨x0a, x0b, x0c, -⟩ := id F_g.out
                          go_wp2_with fail
                          clear x0a x0b x0c q1_0 q1_1 q1_2 q1_3 q1_4 q1_5
                          refine (member_is (r := true) _ hP hQ hG a0 (by simp [HM_a.out, HH.out])).mono ?_
                          rintro e w33 ⟨rfl, hb33⟩
                          replace F_g := Lib.hid (F_g.out.keep hb33)
                          replace F_p := Lib.hid (F_p.out.keep hb33)
                          replace HBW := Lib.hid (HBW.out.trans (hb33.mono HBW.out.size))
                          clear hb33
                          obtain ⟨q1_0, q1_1, q1_2, q1_3, q1_4, q1_5⟩ := Arr.k3 F_p.out
                          obtain ⟨x0a, x0b, x0c, -⟩ := id F_g.out
                          go_wp2_with fail
                          clear x0a x0b x0c q1_0 q1_1 q1_2 q1_3 q1_4 q1_5
                          refine (member_is (r := true) _ hP hQ hG d0 (by simp [HM_d.out, HH.out])).mono ?_
                          rintro e w34 ⟨rfl, hb34⟩
                          replace F_g := Lib.hid (F_g.out.keep hb34)
                          replace F_p := Lib.hid (F_p.out.keep hb34)
                          replace HBW := Lib.hid (HBW.out.trans (hb34.mono HBW.out.size))
                          clear hb34
                          obtain ⟨q1_0, q1_1, q1_2, q1_3, q1_4, q1_5⟩ := Arr.k3 F_p.out
                          obtain ⟨x0a, x0b, x0c, -⟩ := id F_g.out
                          go_wp2_with fail
                          clear x0a x0b x0c q1_0 q1_1 q1_2 q1_3 q1_4 q1_5
                          refine (member_is (r := false) _ hP hQ hG R0 (by simp [HM_R.out])).mono ?_
                          rintro e w35 ⟨rfl, hb35⟩
                          replace F_g := Lib.hid (F_g.out.keep hb35)
                          replace F_p := Lib.hid (F_p.out.keep hb35)
                          replace HBW := Lib.hid (HBW.out.trans (hb35.mono HBW.out.size))
                          clear hb35
                          obtain ⟨q1_0, q1_1, q1_2, q1_3, q1_4, q1_5⟩ := Arr.k3 F_p.out
                          obtain ⟨x0a, x0b, x0c, -⟩ := id F_g.out
                          go_wp2_with fail
                          go_ret
                          exact ⟨rfl, HBW.out⟩
                        case pos =>
                          have HM_R := Lib.hid hm
                          clear hm
                          by_cases hm : Mem P Q S
                          case neg =>
                            have HM_S := Lib.hid hm
                            clear hm
                            have HZ := Lib.hid (show b = false by rw [Bool.eq_false_iff]; intro hA; exact HM_S.out ((HB1.out.1 hA).1 S (by simp)))
                            obtain rfl := HZ.out
                            have HZ2 := Lib.hid (show c = false by rw [Bool.eq_false_iff]; intro hA; exact HM_S.out ((HB2.out.1 hA).1 S (by simp)))
                            obtain rfl := HZ2.out
                            clear HZ HZ2
                            obtain ⟨q1_0, q1_1, q1_2, q1_3, q1_4, q1_5⟩ := Arr.k3 F_p.out
                            obtain ⟨x0a, x0b, x0c, -⟩ := id F_g.out
                            go_wp2_with fail
                            clear x0a x0b x0c q1_0 q1_1 q1_2 q1_3 q1_4 q1_5
                            refine (equalHolds_any (v := ho) (e' := 0) _ hP hQ hG y0 a0 d0 R0 S0 Z0 h0 HO.out).mono ?_
                            rintro e w31 ⟨rfl, hb31⟩
                            replace F_g := Lib.hid (F_g.out.keep hb31)
                            replace F_p := Lib.hid (F_p.out.keep hb31)
                            replace HBW := Lib.hid (HBW.out.trans (hb31.mono HBW.out.size))
                            clear hb31
                            obtain ⟨q1_0, q1_1, q1_2, q1_3, q1_4, q1_5⟩ := Arr.k3 F_p.out
                            obtain ⟨x0a, x0b, x0c, -⟩ := id F_g.out
                            go_wp2_with fail
                            clear x0a x0b x0c q1_0 q1_1 q1_2 q1_3 q1_4 q1_5
                            refine (member_is (r := true) _ hP hQ hG y0 (by simp [HM_y.out, HH.out])).mono ?_
                            rintro e w32 ⟨rfl, hb32⟩
                            replace F_g := Lib.hid (F_g.out.keep hb32)
                            replace F_p := Lib.hid (F_p.out.keep hb32)
                            replace HBW := Lib.hid (HBW.out.trans (hb32.mono HBW.out.size))
                            clear hb32
                            obtain ⟨q1_0, q1_1, q1_2, q1_3, q1_4, q1_5⟩ := Arr.k3 F_p.out
                            obtain ⟨x0a, x0b, x0c, -⟩ := id F_g.out
                            go_wp2_with fail
                            clear x0a x0b x0c q1_0 q1_1 q1_2 q1_3 q1_4 q1_5
                            refine (member_is (r := true) _ hP hQ hG a0 (by simp [HM_a.out, HH.out])).mono ?_
                            rintro e w33 ⟨rfl, hb33⟩
                            replace F_g := Lib.hid (F_g.out.keep hb33)
                            replace F_p := Lib.hid (F_p.out.keep hb33)
                            replace HBW := Lib.hid (HBW.out.trans (hb33.mono HBW.out.size))
                            clear hb33
                            obtain ⟨q1_0, q1_1, q1_2, q1_3, q1_4, q1_5⟩ := Arr.k3 F_p.out
                            obtain ⟨x0a, x0b, x0c, -⟩ := id F_g.out
                            go_wp2_with fail
                            clear x0a x0b x0c q1_0 q1_1 q1_2 q1_3 q1_4 q1_5
                            refine (member_is (r := true) _ hP hQ hG d0 (by simp [HM_d.out, HH.out])).mono ?_
                            rintro e w34 ⟨rfl, hb34⟩
                            replace F_g := Lib.hid (F_g.out.keep hb34)
                            replace F_p := Lib.hid (F_p.out.keep hb34)
                            replace HBW := Lib.hid (HBW.out.trans (hb34.mono HBW.out.size))
                            clear hb34
                            obtain ⟨q1_0, q1_1, q1_2, q1_3, q1_4, q1_5⟩ := Arr.k3 F_p.out
                            obtain ⟨x0a, x0b, x0c, -⟩ := id F_g.out
                            go_wp2_with fail
                            clear x0a x0b x0c q1_0 q1_1 q1_2 q1_3 q1_4 q1_5
                            refine (member_is (r := true) _ hP hQ hG R0 (by simp [HM_R.out, HH.out])).mono ?_
                            rintro e w35 ⟨rfl, hb35⟩
                            replace F_g := Lib.hid (F_g.out.keep hb35)
                            replace F_p := Lib.hid (F_p.out.keep hb35)
                            replace HBW := Lib.hid (HBW.out.trans (hb35.mono HBW.out.size))
                            clear hb35
                            obtain ⟨q1_0, q1_1, q1_2, q1_3, q1_4, q1_5⟩ := Arr.k3 F_p.out
                            obtain ⟨x0a, x0b, x0c, -⟩ := id F_g.out
                            go_wp2_with fail
                            clear x0a x0b x0c q1_0 q1_1 q1_2 q1_3 q1_4 q1_5
                            refine (member_is (r := false) _ hP hQ hG S0 (by simp [HM_S.out])).mono ?_
                            rintro e w36 ⟨rfl, hb36⟩
                            replace F_g := Lib.hid (F_g.out.keep hb36)
                            replace F_p := Lib.hid (F_p.out.keep hb36)
                            replace HBW := Lib.hid (HBW.out.trans (hb36.mono HBW.out.size))
                            clear hb36
                            obtain ⟨q1_0, q1_1, q1_2, q1_3, q1_4, q1_5⟩ := Arr.k3 F_p.out
                            obtain ⟨x0a, x0b, x0c, -⟩ := id F_g.out
                            go_wp2_with fail
                            go_ret
                            exact ⟨rfl, HBW.out⟩
                          case pos =>
                            have HM_S := Lib.hid hm
                            clear hm
                            have HZ := Lib.hid (show ho = b by
                              rw [Bool.eq_iff_iff, HOV.out, HB1.out]
                              exact ⟨fun hA => ⟨by intro z hz; simp at hz; rcases hz with rfl | rfl | rfl | rfl | rfl; exact HM_y.out; exact HM_a.out; exact HM_d.out; exact HM_R.out; exact HM_S.out, by rw [HCV.out]; exact hA⟩, fun hA => by rw [← HCV.out]; exact hA.2⟩)
                            cases b with
                            | false =>
                              obtain rfl : ho = false := HZ.out
                              clear HZ
                              obtain ⟨q1_0, q1_1, q1_2, q1_3, q1_4, q1_5⟩ := Arr.k3 F_p.out
                              obtain ⟨x0a, x0b, x0c, -⟩ := id F_g.out
                              go_wp2_with fail
                              clear x0a x0b x0c q1_0 q1_1 q1_2 q1_3 q1_4 q1_5
                              refine (equalHolds_any (v := false) (e' := 0) _ hP hQ hG y0 a0 d0 R0 S0 Z0 h0 HO.out).mono ?_
                              rintro e w31 ⟨rfl, hb31⟩
                              replace F_g := Lib.hid (F_g.out.keep hb31)
                              replace F_p := Lib.hid (F_p.out.keep hb31)
                              replace HBW := Lib.hid (HBW.out.trans (hb31.mono HBW.out.size))
                              clear hb31
                              obtain ⟨q1_0, q1_1, q1_2, q1_3, q1_4, q1_5⟩ := Arr.k3 F_p.out
                              obtain ⟨x0a, x0b, x0c, -⟩ := id F_g.out
                              go_wp2_with fail
                              clear x0a x0b x0c q1_0 q1_1 q1_2 q1_3 q1_4 q1_5
                              refine (member_is (r := true) _ hP hQ hG y0 (by simp [HM_y.out, HH.out])).mono ?_
                              rintro e w32 ⟨rfl, hb32⟩
                              replace F_g := Lib.hid (F_g.out.keep hb32)
                              replace F_p := Lib.hid (F_p.out.keep hb32)
                              replace HBW := Lib.hid (HBW.out.trans (hb32.mono HBW.out.size))
                              clear hb32
                              obtain ⟨q1_0, q1_1, q1_2, q1_3, q1_4, q1_5⟩ := Arr.k3 F_p.out
                              obtain ⟨x0a, x0b, x0c, -⟩ := id F_g.out
                              go_wp2_with fail
                              clear x0a x0b x0c q1_0 q1_1 q1_2 q1_3 q1_4 q1_5
                              refine (member_is (r := true) _ hP hQ hG a0 (by simp [HM_a.out, HH.out])).mono ?_
                              rintro e w33 ⟨rfl, hb33⟩
                              replace F_g := Lib.hid (F_g.out.keep hb33)
                              replace F_p := Lib.hid (F_p.out.keep hb33)
                              replace HBW := Lib.hid (HBW.out.trans (hb33.mono HBW.out.size))
                              clear hb33
                              obtain ⟨q1_0, q1_1, q1_2, q1_3, q1_4, q1_5⟩ := Arr.k3 F_p.out
                              obtain ⟨x0a, x0b, x0c, -⟩ := id F_g.out
                              go_wp2_with fail
                              clear x0a x0b x0c q1_0 q1_1 q1_2 q1_3 q1_4 q1_5
                              refine (member_is (r := true) _ hP hQ hG d0 (by simp [HM_d.out, HH.out])).mono ?_
                              rintro e w34 ⟨rfl, hb34⟩
                              replace F_g := Lib.hid (F_g.out.keep hb34)
                              replace F_p := Lib.hid (F_p.out.keep hb34)
                              replace HBW := Lib.hid (HBW.out.trans (hb34.mono HBW.out.size))
                              clear hb34
                              obtain ⟨q1_0, q1_1, q1_2, q1_3, q1_4, q1_5⟩ := Arr.k3 F_p.out
                              obtain ⟨x0a, x0b, x0c, -⟩ := id F_g.out
                              go_wp2_with fail
                              clear x0a x0b x0c q1_0 q1_1 q1_2 q1_3 q1_4 q1_5
                              refine (member_is (r := true) _ hP hQ hG R0 (by simp [HM_R.out, HH.out])).mono ?_
                              rintro e w35 ⟨rfl, hb35⟩
                              replace F_g := Lib.hid (F_g.out.keep hb35)
                              replace F_p := Lib.hid (F_p.out.keep hb35)
                              replace HBW := Lib.hid (HBW.out.trans (hb35.mono HBW.out.size))
                              clear hb35
                              obtain ⟨q1_0, q1_1, q1_2, q1_3, q1_4, q1_5⟩ := Arr.k3 F_p.out
                              obtain ⟨x0a, x0b, x0c, -⟩ := id F_g.out
                              go_wp2_with fail
                              clear x0a x0b x0c q1_0 q1_1 q1_2 q1_3 q1_4 q1_5
                              refine (member_is (r := true) _ hP hQ hG S0 (by simp [HM_S.out, HH.out])).mono ?_
                              rintro e w36 ⟨rfl, hb36⟩
                              replace F_g := Lib.hid (F_g.out.keep hb36)
                              replace F_p := Lib.hid (F_p.out.keep hb36)
                              replace HBW := Lib.hid (HBW.out.trans (hb36.mono HBW.out.size))
                              clear hb36
                              obtain ⟨q1_0, q1_1, q1_2, q1_3, q1_4, q1_5⟩ := Arr.k3 F_p.out
                              obtain ⟨x0a, x0b, x0c, -⟩ := id F_g.out
                              go_wp2_with fail
                              go_ret
                              exact ⟨rfl, HBW.out⟩
                            | true =>
                              obtain rfl : ho = true := HZ.out
                              clear HZ
                              obtain ⟨q1_0, q1_1, q1_2, q1_3, q1_4, q1_5⟩ := Arr.k3 F_p.out
                              obtain ⟨x0a, x0b, x0c, -⟩ := id F_g.out
                              go_wp2_with fail
                              clear x0a x0b x0c q1_0 q1_1 q1_2 q1_3 q1_4 q1_5
                              refine (equalHolds_any (v := true) (e' := 0) _ hP hQ hG y0 a0 d0 R0 S0 Z0 h0 HO.out).mono ?_
                              rintro e w31 ⟨rfl, hb31⟩
                              replace F_g := Lib.hid (F_g.out.keep hb31)
                              replace F_p := Lib.hid (F_p.out.keep hb31)
                              replace HBW := Lib.hid (HBW.out.trans (hb31.mono HBW.out.size))
                              clear hb31
                              obtain ⟨q1_0, q1_1, q1_2, q1_3, q1_4, q1_5⟩ := Arr.k3 F_p.out
                              obtain ⟨x0a, x0b, x0c, -⟩ := id F_g.out
                              go_wp2_with fail
                              clear x0a x0b x0c q1_0 q1_1 q1_2 q1_3 q1_4 q1_5
                              refine (member_is (r := true) _ hP hQ hG y0 (by simp [HM_y.out, HH.out])).mono ?_
                              rintro e w32 ⟨rfl, hb32⟩
                              replace F_g := Lib.hid (F_g.out.keep hb32)
                              replace F_p := Lib.hid (F_p.out.keep hb32)
                              replace HBW := Lib.hid (HBW.out.trans (hb32.mono HBW.out.size))
                              clear hb32
                              obtain ⟨q1_0, q1_1, q1_2, q1_3, q1_4, q1_5⟩ := Arr.k3 F_p.out
                              obtain ⟨x0a, x0b, x0c, -⟩ := id F_g.out
                              go_wp2_with fail
                              clear x0a x0b x0c q1_0 q1_1 q1_2 q1_3 q1_4 q1_5
                              refine (member_is (r := true) _ hP hQ hG a0 (by simp [HM_a.out, HH.out])).mono ?_
                              rintro e w33 ⟨rfl, hb33⟩
                              replace F_g := Lib.hid (F_g.out.keep hb33)
                              replace F_p := Lib.hid (F_p.out.keep hb33)
                              replace HBW := Lib.hid (HBW.out.trans (hb33.mono HBW.out.size))
                              clear hb33
                              obtain ⟨q1_0, q1_1, q1_2, q1_3, q1_4, q1_5⟩ := Arr.k3 F_p.out
                              obtain ⟨x0a, x0b, x0c, -⟩ := id F_g.out
                              go_wp2_with fail
                              clear x0a x0b x0c q1_0 q1_1 q1_2 q1_3 q1_4 q1_5
                              refine (member_is (r := true) _ hP hQ hG d0 (by simp [HM_d.out, HH.out])).mono ?_
                              rintro e w34 ⟨rfl, hb34⟩
                              replace F_g := Lib.hid (F_g.out.keep hb34)
                              replace F_p := Lib.hid (F_p.out.keep hb34)
                              replace HBW := Lib.hid (HBW.out.trans (hb34.mono HBW.out.size))
                              clear hb34
                              obtain ⟨q1_0, q1_1, q1_2, q1_3, q1_4, q1_5⟩ := Arr.k3 F_p.out
                              obtain ⟨x0a, x0b, x0c, -⟩ := id F_g.out
                              go_wp2_with fail
                              clear x0a x0b x0c q1_0 q1_1 q1_2 q1_3 q1_4 q1_5
                              refine (member_is (r := true) _ hP hQ hG R0 (by simp [HM_R.out, HH.out])).mono ?_
                              rintro e w35 ⟨rfl, hb35⟩
                              replace F_g := Lib.hid (F_g.out.keep hb35)
                              replace F_p := Lib.hid (F_p.out.keep hb35)
                              replace HBW := Lib.hid (HBW.out.trans (hb35.mono HBW.out.size))
                              clear hb35
                              obtain ⟨q1_0, q1_1, q1_2, q1_3, q1_4, q1_5⟩ := Arr.k3 F_p.out
                              obtain ⟨x0a, x0b, x0c, -⟩ := id F_g.out
                              go_wp2_with fail
                              clear x0a x0b x0c q1_0 q1_1 q1_2 q1_3 q1_4 q1_5
                              refine (member_is (r := true) _ hP hQ hG S0 (by simp [HM_S.out, HH.out])).mono ?_
                              rintro e w36 ⟨rfl, hb36⟩
                              replace F_g := Lib.hid (F_g.out.keep hb36)
                              replace F_p := Lib.hid (F_p.out.keep hb36)
                              replace HBW := Lib.hid (HBW.out.trans (hb36.mono HBW.out.size))
                              clear hb36
                              obtain ⟨q1_0, q1_1, q1_2, q1_3, q1_4, q1_5⟩ := Arr.k3 F_p.out
                              obtain ⟨x0a, x0b, x0c, -⟩ := id F_g.out
                              go_wp2_with fail
                              go_ret
                              exact ⟨rfl, HBW.out⟩
                case pos =>
                  subst he
                  by_cases hm : Mem P Q y
                  case neg =>
                    have HM_y := Lib.hid hm
                    clear hm
                    have HZ := Lib.hid (show b = false by rw [Bool.eq_false_iff]; intro hA; exact HM_y.out ((HB1.out.1 hA).1 y (by simp)))
                    obtain rfl := HZ.out
                    have HZ2 := Lib.hid (show c = false by rw [Bool.eq_false_iff]; intro hA; exact HM_y.out ((HB2.out.1 hA).1 y (by simp)))
                    obtain rfl := HZ2.out
                    clear HZ HZ2
                    obtain ⟨q1_0, q1_1, q1_2, q1_3, q1_4, q1_5⟩ := Arr.k3 F_p.out
                    obtain ⟨x0a, x0b, x0c, -⟩ := id F_g.out
                    go_wp2_with fail
                    clear x0a x0b x0c q1_0 q1_1 q1_2 q1_3 q1_4 q1_5
                    refine (equalHolds_any (v := ho) (e' := 0) _ hP hQ hG y0 a0 d0 R0 S0 Z0 h0 HO.out).mono ?_
                    rintro e w31 ⟨rfl, hb31⟩
                    replace F_g := Lib.hid (F_g.out.keep hb31)
                    replace F_p := Lib.hid (F_p.out.keep hb31)
                    replace HBW := Lib.hid (HBW.out.trans (hb31.mono HBW.out.size))
                    clear hb31
                    obtain ⟨q1_0, q1_1, q1_2, q1_3, q1_4, q1_5⟩ := Arr.k3 F_p.out
                    obtain ⟨x0a, x0b, x0c, -⟩ := id F_g.out
                    go_wp2_with fail
                    clear x0a x0b x0c q1_0 q1_1 q1_2 q1_3 q1_4 q1_5
                    refine (member_is (r := false) _ hP hQ hG y0 (by simp [HM_y.out])).mono ?_
                    rintro e w32 ⟨rfl, hb32⟩
                    replace F_g := Lib.hid (F_g.out.keep hb32)
                    replace F_p := Lib.hid (F_p.out.keep hb32)
                    replace HBW := Lib.hid (HBW.out.trans (hb32.mono HBW.out.size))
                    clear hb32
                    obtain ⟨q1_0, q1_1, q1_2, q1_3, q1_4, q1_5⟩ := Arr.k3 F_p.out
                    obtain ⟨x0a, x0b, x0c, -⟩ := id F_g.out
                    go_wp2_with fail
                    go_ret
                    exact ⟨rfl, HBW.out⟩
                  case pos =>
                    have HM_y := Lib.hid hm
                    clear hm
                    by_cases hm : Mem P Q a
                    case neg =>
                      have HM_a := Lib.hid hm
                      clear hm
                      have HZ := Lib.hid (show b = false by rw [Bool.eq_false_iff]; intro hA; exact HM_a.out ((HB1.out.1 hA).1 a (by simp)))
                      obtain rfl := HZ.out
                      have HZ2 := Lib.hid (show c = false by rw [Bool.eq_false_iff]; intro hA; exact HM_a.out ((HB2.out.1 hA).1 a (by simp)))
                      obtain rfl := HZ2.out
                      clear HZ HZ2
                      obtain ⟨q1_0, q1_1, q1_2, q1_3, q1_4, q1_5⟩ := Arr.k3 F_p.out
                      obtain ⟨x0a, x0b, x0c, -⟩ := id F_g.out
                      go_wp2_with fail
                      clear x0a x0b x0c q1_0 q1_1 q1_2 q1_3 q1_4 q1_5
                      refine (equalHolds_any (v := ho) (e' := 0) _ hP hQ hG y0 a0 d0 R0 S0 Z0 h0 HO.out).mono ?_
                      rintro e w31 ⟨rfl, hb31⟩
                      replace F_g := Lib.hid (F_g.out.keep hb31)
                      replace F_p := Lib.hid (F_p.out.keep hb31)
                      replace HBW := Lib.hid (HBW.out.trans (hb31.mono HBW.out.size))
                      clear hb31
                      obtain ⟨q1_0, q1_1, q1_2, q1_3, q1_4, q1_5⟩ := Arr.k3 F_p.out
                      obtain ⟨x0a, x0b, x0c, -⟩ := id F_g.out
                      go_wp2_with fail
                      clear x0a x0b x0c q1_0 q1_1 q1_2 q1_3 q1_4 q1_5
                      refine (member_is (r := true) _ hP hQ hG y0 (by simp [HM_y.out, HH.out])).mono ?_
                      rintro e w32 ⟨rfl, hb32⟩
                      replace F_g := Lib.hid (F_g.out.keep hb32)
                      replace F_p := Lib.hid (F_p.out.keep hb32)
                      replace HBW := Lib.hid (HBW.out.trans (hb32.mono HBW.out.size))
                      clear hb32
                      obtain ⟨q1_0, q1_1, q1_2, q1_3, q1_4, q1_5⟩ := Arr.k3 F_p.out
                      obtain ⟨x0a, x0b, x0c, -⟩ := id F_g.out
                      go_wp2_with fail
                      clear x0a x0b x0c q1_0 q1_1 q1_2 q1_3 q1_4 q1_5
                      refine (member_is (r := false) _ hP hQ hG a0 (by simp [HM_a.out])).mono ?_
                      rintro e w33 ⟨rfl, hb33⟩
                      replace F_g := Lib.hid (F_g.out.keep hb33)
                      replace F_p := Lib.hid (F_p.out.keep hb33)
                      replace HBW := Lib.hid (HBW.out.trans (hb33.mono HBW.out.size))
                      clear hb33
                      obtain ⟨q1_0, q1_1, q1_2, q1_3, q1_4, q1_5⟩ := Arr.k3 F_p.out
                      obtain ⟨x0a, x0b, x0c, -⟩ := id F_g.out
                      go_wp2_with fail
                      go_ret
                      exact ⟨rfl, HBW.out⟩
                    case pos =>
                      have HM_a := Lib.hid hm
                      clear hm
                      by_cases hm : Mem P Q d
                      case neg =>
                        have HM_d := Lib.hid hm
                        clear hm
                        have HZ := Lib.hid (show b = false by rw [Bool.eq_false_iff]; intro hA; exact HM_d.out ((HB1.out.1 hA).1 d (by simp)))
                        obtain rfl := HZ.out
                        have HZ2 := Lib.hid (show c = false by rw [Bool.eq_false_iff]; intro hA; exact HM_d.out ((HB2.out.1 hA).1 d (by simp)))
                        obtain rfl := HZ2.out
                        clear HZ HZ2
                        obtain ⟨q1_0, q1_1, q1_2, q1_3, q1_4, q1_5⟩ := Arr.k3 F_p.out
                        obtain ⟨x0a, x0b, x0c, -⟩ := id F_g.out
                        go_wp2_with fail
                        clear x0a x0b x0c q1_0 q1_1 q1_2 q1_3 q1_4 q1_5
                        refine (equalHolds_any (v := ho) (e' := 0) _ hP hQ hG y0 a0 d0 R0 S0 Z0 h0 HO.out).mono ?_
                        rintro e w31 ⟨rfl, hb31⟩
                        replace F_g := Lib.hid (F_g.out.keep hb31)
                        replace F_p := Lib.hid (F_p.out.keep hb31)
                        replace HBW := Lib.hid (HBW.out.trans (hb31.mono HBW.out.size))
                        clear hb31
                        obtain ⟨q1_0, q1_1, q1_2, q1_3, q1_4, q1_5⟩ := Arr.k3 F_p.out
                        obtain ⟨x0a, x0b, x0c, -⟩ := id F_g.out
                        go_wp2_with fail
                        clear x0a x0b x0c q1_0 q1_1 q1_2 q1_3 q1_4 q1_5
                        refine (member_is (r := true) _ hP hQ hG y0 (by simp [HM_y.out, HH.out])).mono ?_
                        rintro e w32 ⟨rfl, hb32⟩
                        replace F_g := Lib.hid (F_g.out.keep hb32)
                        replace F_p := Lib.hid (F_p.out.keep hb32)
                        replace HBW := Lib.hid (HBW.out.trans (hb32.mono HBW.out.size))
                        clear hb32
                        obtain ⟨q1_0, q1_1, q1_2, q1_3, q1_4, q1_5⟩ := Arr.k3 F_p.out
                        obtain ⟨x0a, x0b, x0c, -⟩ := id F_g.out
                        go_wp2_with fail
                        clear x0a x0b x0c q1_0 q1_1 q1_2 q1_3 q1_4 q1_5
                        refine (member_is (r := true) _ hP hQ hG a0 (by simp [HM_a.out, HH.out])).mono ?_
                        rintro e w33 ⟨rfl, hb33⟩
                        replace F_g := Lib.hid (F_g.out.keep hb33)
                        replace F_p := Lib.hid (F_p.out.keep hb33)
                        replace HBW := Lib.hid (HBW.out.trans (hb33.mono HBW.out.size))
                        clear hb33
                        obtain ⟨q1_0, q1_1, q1_2, q1_3, q1_4, q1_5⟩ := Arr.k3 F_p.out
                        obtain ⟨x0a, x0b, x0c, -⟩ := id F_g.out
                        go_wp2_with fail
                        clear x0a x0b x0c q1_0 q1_1 q1_2 q1_3 q1_4 q1_5
                        refine (member_is (r := false) _ hP hQ hG d0 (by simp [HM_d.out])).mono ?_
                        rintro e w34 ⟨rfl, hb34⟩
                        replace F_g := Lib.hid (F_g.out.keep hb34)
                        replace F_p := Lib.hid (F_p.out.keep hb34)
                        replace HBW := Lib.hid (HBW.out.trans (hb34.mono HBW.out.size))
                        clear hb34
                        obtain ⟨q1_0, q1_1, q1_2, q1_3, q1_4, q1_5⟩ := Arr.k3 F_p.out
                        obtain ⟨x0a, x0b, x0c, -⟩ := id F_g.out
                        go_wp2_with fail
                        go_ret
                        exact ⟨rfl, HBW.out⟩
                      case pos =>
                        have HM_d := Lib.hid hm
                        clear hm
                        by_cases hm : Mem P Q R
                        case neg =>
                          have HM_R := Lib.hid hm
                          clear hm
                          have HZ := Lib.hid (show b = false by rw [Bool.eq_false_iff]; intro hA; exact HM_R.out ((HB1.out.1 hA).1 R (by simp)))
                          obtain rfl := HZ.out
                          have HZ2 := Lib.hid (show c = false by rw [Bool.eq_false_iff]; intro hA; exact HM_R.out ((HB2.out.1 hA).1 R (by simp)))
                          obtain rfl := HZ2.out
                          clear HZ HZ2
                          obtain ⟨q1_0, q1_1, q1_2, q1_3, q1_4, q1_5⟩ := Arr.k3 F_p.out
                          obtain ⟨x0a, x0b, x0c, -⟩ := id F_g.out
                          go_wp2_with fail
                          clear x0a x0b x0c q1_0 q1_1 q1_2 q1_3 q1_4 q1_5
                          refine (equalHolds_any (v := ho) (e' := 0) _ hP hQ hG y0 a0 d0 R0 S0 Z0 h0 HO.out).mono ?_
                          rintro e w31 ⟨rfl, hb31⟩
                          replace F_g := Lib.hid (F_g.out.keep hb31)
                          replace F_p := Lib.hid (F_p.out.keep hb31)
                          replace HBW := Lib.hid (HBW.out.trans (hb31.mono HBW.out.size))
                          clear hb31
                          obtain ⟨q1_0, q1_1, q1_2, q1_3, q1_4, q1_5⟩ := Arr.k3 F_p.out
                          obtain ⟨x0a, x0b, x0c, -⟩ := id F_g.out
                          go_wp2_with fail
                          clear x0a x0b x0c q1_0 q1_1 q1_2 q1_3 q1_4 q1_5
                          refine (member_is (r := true) _ hP hQ hG y0 (by simp [HM_y.out, HH.out])).mono ?_
                          rintro e w32 ⟨rfl, hb32⟩
                          replace F_g := Lib.hid (F_g.out.keep hb32)
                          replace F_p := Lib.hid (F_p.out.keep hb32)
                          replace HBW := Lib.hid (HBW.out.trans (hb32.mono HBW.out.size))
                          clear hb32
                          obtain ⟨q1_0, q1_1, q1_2, q1_3, q1_4, q1_5⟩ := Arr.k3 F_p.out
                          obtain ⟨x0a, x0b, x0c, -⟩ := id F_g.out
                          go_wp2_with fail
                          clear x0a x0b x0c q1_0 q1_1 q1_2 q1_3 q1_4 q1_5
                          refine (member_is (r := true) _ hP hQ hG a0 (by simp [HM_a.out, HH.out])).mono ?_
                          rintro e w33 ⟨rfl, hb33⟩
                          replace F_g := Lib.hid (F_g.out.keep hb33)
                          replace F_p := Lib.hid (F_p.out.keep hb33)
                          replace HBW := Lib.hid (HBW.out.trans (hb33.mono HBW.out.size))
                          clear hb33
                          obtain ⟨q1_0, q1_1, q1_2, q1_3, q1_4, q1_5⟩ := Arr.k3 F_p.out
                          obtain ⟨x0a, x0b, x0c, -⟩ := id F_g.out
                          go_wp2_with fail
                          clear x0a x0b x0c q1_0 q1_1 q1_2 q1_3 q1_4 q1_5
                          refine (member_is (r := true) _ hP hQ hG d0 (by simp [HM_d.out, HH.out])).mono ?_
                          rintro e w34 ⟨rfl, hb34⟩
                          replace F_g := Lib.hid (F_g.out.keep hb34)
                          replace F_p := Lib.hid (F_p.out.keep hb34)
                          replace HBW := Lib.hid (HBW.out.trans (hb34.mono HBW.out.size))
                          clear hb34
                          obtain ⟨q1_0, q1_1, q1_2, q1_3, q1_4, q1_5⟩ := Arr.k3 F_p.out
                          obtain ⟨x0a, x0b, x0c, -⟩ := id F_g.out
                          go_wp2_with fail
                          clear x0a x0b x0c q1_0 q1_1 q1_2 q1_3 q1_4 q1_5
                          refine (member_is (r := false) _ hP hQ hG R0 (by simp [HM_R.out])).mono ?_
                          rintro e w35 ⟨rfl, hb35⟩
                          replace F_g := Lib.hid (F_g.out.keep hb35)
                          replace F_p := Lib.hid (F_p.out.keep hb35)
                          replace HBW := Lib.hid (HBW.out.trans (hb35.mono HBW.out.size))
                          clear hb35
                          obtain ⟨q1_0, q1_1, q1_2, q1_3, q1_4, q1_5⟩ := Arr.k3 F_p.out
                          obtain ⟨x0a, x0b, x0c, -⟩ := id F_g.out
                          go_wp2_with fail
                          go_ret
                          exact ⟨rfl, HBW.out⟩
                        case pos =>
                          have HM_R := Lib.hid hm
                          clear hm
                          by_cases hm : Mem P Q S
                          case neg =>
                            have HM_S := Lib.hid hm
                            clear hm
                            have HZ := Lib.hid (show b = false by rw [Bool.eq_false_iff]; intro hA; exact HM_S.out ((HB1.out.1 hA).1 S (by simp)))
                            obtain rfl := HZ.out
                            have HZ2 := Lib.hid (show c = false by rw [Bool.eq_false_iff]; intro hA; exact HM_S.out ((HB2.out.1 hA).1 S (by simp)))
                            obtain rfl := HZ2.out
                            clear HZ HZ2
                            obtain ⟨q1_0, q1_1, q1_2, q1_3, q1_4, q1_5⟩ := Arr.k3 F_p.out
                            obtain ⟨x0a, x0b, x0c, -⟩ := id F_g.out
                            go_wp2_with fail
                            clear x0a x0b x0c q1_0 q1_1 q1_2 q1_3 q1_4 q1_5
                            refine (equalHolds_any (v := ho) (e' := 0) _ hP hQ hG y0 a0 d0 R0 S0 Z0 h0 HO.out).mono ?_
                            rintro e w31 ⟨rfl, hb31⟩
                            replace F_g := Lib.hid (F_g.out.keep hb31)
                            replace F_p := Lib.hid (F_p.out.keep hb31)
                            replace HBW := Lib.hid (HBW.out.trans (hb31.mono HBW.out.size))
                            clear hb31
                            obtain ⟨q1_0, q1_1, q1_2, q1_3, q1_4, q1_5⟩ := Arr.k3 F_p.out
                            obtain ⟨x0a, x0b, x0c, -⟩ := id F_g.out
                            go_wp2_with fail
                            clear x0a x0b x0c q1_0 q1_1 q1_2 q1_3 q1_4 q1_5
                            refine (member_is (r := true) _ hP hQ hG y0 (by simp [HM_y.out, HH.out])).mono ?_
                            rintro e w32 ⟨rfl, hb32⟩
                            replace F_g := Lib.hid (F_g.out.keep hb32)
                            replace F_p := Lib.hid (F_p.out.keep hb32)
                            replace HBW := Lib.hid (HBW.out.trans (hb32.mono HBW.out.size))
                            clear hb32
                            obtain ⟨q1_0, q1_1, q1_2, q1_3, q1_4, q1_5⟩ := Arr.k3 F_p.out
                            obtain ⟨x0a, x0b, x0c, -⟩ := id F_g.out
                            go_wp2_with fail
                            clear x0a x0b x0c q1_0 q1_1 q1_2 q1_3 q1_4 q1_5
                            refine (member_is (r := true) _ hP hQ hG a0 (by simp [HM_a.out, HH.out])).mono ?_
                            rintro e w33 ⟨rfl, hb33⟩
                            replace F_g := Lib.hid (F_g.out.keep hb33)
                            replace F_p := Lib.hid (F_p.out.keep hb33)
                            replace HBW := Lib.hid (HBW.out.trans (hb33.mono HBW.out.size))
                            clear hb33
                            obtain ⟨q1_0, q1_1, q1_2, q1_3, q1_4, q1_5⟩ := Arr.k3 F_p.out
                            obtain ⟨x0a, x0b, x0c, -⟩ := id F_g.out
                            go_wp2_with fail
                            clear x0a x0b x0c q1_0 q1_1 q1_2 q1_3 q1_4 q1_5
                            refine (member_is (r := true) _ hP hQ hG d0 (by simp [HM_d.out, HH.out])).mono ?_
                            rintro e w34 ⟨rfl, hb34⟩
                            replace F_g := Lib.hid (F_g.out.keep hb34)
                            replace F_p := Lib.hid (F_p.out.keep hb34)
                            replace HBW := Lib.hid (HBW.out.trans (hb34.mono HBW.out.size))
                            clear hb34
                            obtain ⟨q1_0, q1_1, q1_2, q1_3, q1_4, q1_5⟩ := Arr.k3 F_p.out
                            obtain ⟨x0a, x0b, x0c, -⟩ := id F_g.out
                            go_wp2_with fail
                            clear x0a x0b x0c q1_0 q1_1 q1_2 q1_3 q1_4 q1_5
                            refine (member_is (r := true) _ hP hQ hG R0 (by simp [HM_R.out, HH.out])).mono ?_
                            rintro e w35 ⟨rfl, hb35⟩
                            replace F_g := Lib.hid (F_g.out.keep hb35)
                            replace F_p := Lib.hid (F_p.out.keep hb35)
                            replace HBW := Lib.hid (HBW.out.trans (hb35.mono HBW.out.size))
                            clear hb35
                            obtain ⟨q1_0, q1_1, q1_2, q1_3, q1_4, q1_5⟩ := Arr.k3 F_p.out
                            obtain ⟨x0a, x0b, x0c, -⟩ := id F_g.out
                            go_wp2_with fail
                            clear x0a x0b x0c q1_0 q1_1 q1_2 q1_3 q1_4 q1_5
                            refine (member_is (r := false) _ hP hQ hG S0 (by simp [HM_S.out])).mono ?_
                            rintro e w36 ⟨rfl, hb36⟩
                            replace F_g := Lib.hid (F_g.out.keep hb36)
                            replace F_p := Lib.hid (F_p.out.keep hb36)
                            replace HBW := Lib.hid (HBW.out.trans (hb36.mono HBW.out.size))
                            clear hb36
                            obtain ⟨q1_0, q1_1, q1_2, q1_3, q1_4, q1_5⟩ := Arr.k3 F_p.out
                            obtain ⟨x0a, x0b, x0c, -⟩ := id F_g.out
                            go_wp2_with fail
                            go_ret
                            exact ⟨rfl, HBW.out⟩
                          case pos =>
                            have HM_S := Lib.hid hm
                            clear hm
                            have HZ := Lib.hid (show ho = b by
                              rw [Bool.eq_iff_iff, HOV.out, HB1.out]
                              exact ⟨fun hA => ⟨by intro z hz; simp at hz; rcases hz with rfl | rfl | rfl | rfl | rfl; exact HM_y.out; exact HM_a.out; exact HM_d.out; exact HM_R.out; exact HM_S.out, by rw [HCV.out]; exact hA⟩, fun hA => by rw [← HCV.out]; exact hA.2⟩)
                            have HZ2 := Lib.hid (show c = b by rw [Bool.eq_iff_iff, HB1.out, HB2.out, evP, evP, HCV.out, HCV2.out])
                            cases b with
                            | false =>
                              obtain rfl : ho = false := HZ.out
                              obtain rfl : c = false := HZ2.out
                              clear HZ2
                              clear HZ
                              obtain ⟨q1_0, q1_1, q1_2, q1_3, q1_4, q1_5⟩ := Arr.k3 F_p.out
                              obtain ⟨x0a, x0b, x0c, -⟩ := id F_g.out
                              go_wp2_with fail
                              clear x0a x0b x0c q1_0 q1_1 q1_2 q1_3 q1_4 q1_5
                              refine (equalHolds_any (v := false) (e' := 0) _ hP hQ hG y0 a0 d0 R0 S0 Z0 h0 HO.out).mono ?_
                              rintro e w31 ⟨rfl, hb31⟩
                              replace F_g := Lib.hid (F_g.out.keep hb31)
                              replace F_p := Lib.hid (F_p.out.keep hb31)
                              replace HBW := Lib.hid (HBW.out.trans (hb31.mono HBW.out.size))
                              clear hb31
                              obtain ⟨q1_0, q1_1, q1_2, q1_3, q1_4, q1_5⟩ := Arr.k3 F_p.out
                              obtain ⟨x0a, x0b, x0c, -⟩ := id F_g.out
                              go_wp2_with fail
                              clear x0a x0b x0c q1_0 q1_1 q1_2 q1_3 q1_4 q1_5
                              refine (member_is (r := true) _ hP hQ hG y0 (by simp [HM_y.out, HH.out])).mono ?_
                              rintro e w32 ⟨rfl, hb32⟩
                              replace F_g := Lib.hid (F_g.out.keep hb32)
                              replace F_p := Lib.hid (F_p.out.keep hb32)
                              replace HBW := Lib.hid (HBW.out.trans (hb32.mono HBW.out.size))
                              clear hb32
                              obtain ⟨q1_0, q1_1, q1_2, q1_3, q1_4, q1_5⟩ := Arr.k3 F_p.out
                              obtain ⟨x0a, x0b, x0c, -⟩ := id F_g.out
                              go_wp2_with fail
                              clear x0a x0b x0c q1_0 q1_1 q1_2 q1_3 q1_4 q1_5
                              refine (member_is (r := true) _ hP hQ hG a0 (by simp [HM_a.out, HH.out])).mono ?_
                              rintro e w33 ⟨rfl, hb33⟩
                              replace F_g := Lib.hid (F_g.out.keep hb33)
                              replace F_p := Lib.hid (F_p.out.keep hb33)
                              replace HBW := Lib.hid (HBW.out.trans (hb33.mono HBW.out.size))
                              clear hb33
                              obtain ⟨q1_0, q1_1, q1_2, q1_3, q1_4, q1_5⟩ := Arr.k3 F_p.out
                              obtain ⟨x0a, x0b, x0c, -⟩ := id F_g.out
                              go_wp2_with fail
                              clear x0a x0b x0c q1_0 q1_1 q1_2 q1_3 q1_4 q1_5
                              refine (member_is (r := true) _ hP hQ hG d0 (by simp [HM_d.out, HH.out])).mono ?_
                              rintro e w34 ⟨rfl, hb34⟩
                              replace F_g := Lib.hid (F_g.out.keep hb34)
                              replace F_p := Lib.hid (F_p.out.keep hb34)
                              replace HBW := Lib.hid (HBW.out.trans (hb34.mono HBW.out.size))
                              clear hb34
                              obtain ⟨q1_0, q1_1, q1_2, q1_3, q1_4, q1_5⟩ := Arr.k3 F_p.out
                              obtain ⟨x0a, x0b, x0c, -⟩ := id F_g.out
                              go_wp2_with fail
                              clear x0a x0b x0c q1_0 q1_1 q1_2 q1_3 q1_4 q1_5
                              refine (member_is (r := true) _ hP hQ hG R0 (by simp [HM_R.out, HH.out])).mono ?_
                              rintro e w35 ⟨rfl, hb35⟩
                              replace F_g := Lib.hid (F_g.out.keep hb35)
                              replace F_p := Lib.hid (F_p.out.keep hb35)
                              replace HBW := Lib.hid (HBW.out.trans (hb35.mono HBW.out.size))
                              clear hb35
                              obtain ⟨q1_0, q1_1, q1_2, q1_3, q1_4, q1_5⟩ := Arr.k3 F_p.out
                              obtain ⟨x0a, x0b, x0c, -⟩ := id F_g.out
                              go_wp2_with fail
                              clear x0a x0b x0c q1_0 q1_1 q1_2 q1_3 q1_4 q1_5
                              refine (member_is (r := true) _ hP hQ hG S0 (by simp [HM_S.out, HH.out])).mono ?_
                              rintro e w36 ⟨rfl, hb36⟩
                              replace F_g := Lib.hid (F_g.out.keep hb36)
                              replace F_p := Lib.hid (F_p.out.keep hb36)
                              replace HBW := Lib.hid (HBW.out.trans (hb36.mono HBW.out.size))
                              clear hb36
                              obtain ⟨q1_0, q1_1, q1_2, q1_3, q1_4, q1_5⟩ := Arr.k3 F_p.out
                              obtain ⟨x0a, x0b, x0c, -⟩ := id F_g.out
                              go_wp2_with fail
                              go_ret
                              exact ⟨rfl, HBW.out⟩
                            | true =>
                              obtain rfl : ho = true := HZ.out
                              obtain rfl : c = true := HZ2.out
                              clear HZ2
                              clear HZ
                              obtain ⟨q1_0, q1_1, q1_2, q1_3, q1_4, q1_5⟩ := Arr.k3 F_p.out
                              obtain ⟨x0a, x0b, x0c, -⟩ := id F_g.out
                              go_wp2_with fail
                              clear x0a x0b x0c q1_0 q1_1 q1_2 q1_3 q1_4 q1_5
                              refine (equalHolds_any (v := true) (e' := 0) _ hP hQ hG y0 a0 d0 R0 S0 Z0 h0 HO.out).mono ?_
                              rintro e w31 ⟨rfl, hb31⟩
                              replace F_g := Lib.hid (F_g.out.keep hb31)
                              replace F_p := Lib.hid (F_p.out.keep hb31)
                              replace HBW := Lib.hid (HBW.out.trans (hb31.mono HBW.out.size))
                              clear hb31
                              obtain ⟨q1_0, q1_1, q1_2, q1_3, q1_4, q1_5⟩ := Arr.k3 F_p.out
                              obtain ⟨x0a, x0b, x0c, -⟩ := id F_g.out
                              go_wp2_with fail
                              clear x0a x0b x0c q1_0 q1_1 q1_2 q1_3 q1_4 q1_5
                              refine (member_is (r := true) _ hP hQ hG y0 (by simp [HM_y.out, HH.out])).mono ?_
                              rintro e w32 ⟨rfl, hb32⟩
                              replace F_g := Lib.hid (F_g.out.keep hb32)
                              replace F_p := Lib.hid (F_p.out.keep hb32)
                              replace HBW := Lib.hid (HBW.out.trans (hb32.mono HBW.out.size))
                              clear hb32
                              obtain ⟨q1_0, q1_1, q1_2, q1_3, q1_4, q1_5⟩ := Arr.k3 F_p.out
                              obtain ⟨x0a, x0b, x0c, -⟩ := id F_g.out
                              go_wp2_with fail
                              clear x0a x0b x0c q1_0 q1_1 q1_2 q1_3 q1_4 q1_5
                              refine (member_is (r := true) _ hP hQ hG a0 (by simp [HM_a.out, HH.out])).mono ?_
                              rintro e w33 ⟨rfl, hb33⟩
                              replace F_g := Lib.hid (F_g.out.keep hb33)
                              replace F_p := Lib.hid (F_p.out.keep hb33)
                              replace HBW := Lib.hid (HBW.out.trans (hb33.mono HBW.out.size))
                              clear hb33
                              obtain ⟨q1_0, q1_1, q1_2, q1_3, q1_4, q1_5⟩ := Arr.k3 F_p.out
                              obtain ⟨x0a, x0b, x0c, -⟩ := id F_g.out
                              go_wp2_with fail
                              clear x0a x0b x0c q1_0 q1_1 q1_2 q1_3 q1_4 q1_5
                              refine (member_is (r := true) _ hP hQ hG d0 (by simp [HM_d.out, HH.out])).mono ?_
                              rintro e w34 ⟨rfl, hb34⟩
                              replace F_g := Lib.hid (F_g.out.keep hb34)
                              replace F_p := Lib.hid (F_p.out.keep hb34)
                              replace HBW := Lib.hid (HBW.out.trans (hb34.mono HBW.out.size))
                              clear hb34
                              obtain ⟨q1_0, q1_1, q1_2, q1_3, q1_4, q1_5⟩ := Arr.k3 F_p.out
                              obtain ⟨x0a, x0b, x0c, -⟩ := id F_g.out
                              go_wp2_with fail
                              clear x0a x0b x0c q1_0 q1_1 q1_2 q1_3 q1_4 q1_5
                              refine (member_is (r := true) _ hP hQ hG R0 (by simp [HM_R.out, HH.out])).mono ?_
                              rintro e w35 ⟨rfl, hb35⟩
                              replace F_g := Lib.hid (F_g.out.keep hb35)
                              replace F_p := Lib.hid (F_p.out.keep hb35)
                              replace HBW := Lib.hid (HBW.out.trans (hb35.mono HBW.out.size))
                              clear hb35
                              obtain ⟨q1_0, q1_1, q1_2, q1_3, q1_4, q1_5⟩ := Arr.k3 F_p.out
                              obtain ⟨x0a, x0b, x0c, -⟩ := id F_g.out
                              go_wp2_with fail
                              clear x0a x0b x0c q1_0 q1_1 q1_2 q1_3 q1_4 q1_5
                              refine (member_is (r := true) _ hP hQ hG S0 (by simp [HM_S.out, HH.out])).mono ?_
                              rintro e w36 ⟨rfl, hb36⟩
                              replace F_g := Lib.hid (F_g.out.keep hb36)
                              replace F_p := Lib.hid (F_p.out.keep hb36)
                              replace HBW := Lib.hid (HBW.out.trans (hb36.mono HBW.out.size))
                              clear hb36
                              obtain ⟨q1_0, q1_1, q1_2, q1_3, q1_4, q1_5⟩ := Arr.k3 F_p.out
                              obtain ⟨x0a, x0b, x0c, -⟩ := id F_g.out
                              go_wp2_with fail
                              go_ret
                              exact ⟨rfl, HBW.out⟩
              case pos =>
                have hdn : decide (k < 4) = true := by simp; omega
                have hd : decide ((k : Int) < 4) = true := by simp; omega
                have k0 : (0 : Int) ≤ (k : Int) := by omega
                have hw1 : IntKind.i64.wrap ((k : Int) + 1) = (k : Int) + 1 := IntWalk.i64_in _ (by omega)
                obtain ⟨s, hs, hc⟩ := (F_nm.out.keep HG.out.bel).at k hlt
                obtain ⟨x, hx⟩ : ∃ x, ns.getD k 0 = x := ⟨_, rfl⟩
                have HUX := Lib.hid (show U64 x from HU.out x (by rw [← hx, List.getD_eq_getElem?_getD, List.getElem?_eq_getElem (by have := HL.out; omega)]; exact List.getElem_mem _))
                have HFL := Lib.hid (show flat8 (ns.take k) ++ be8 x = flat8 (ns.take (k + 1)) from flat8_snoc ns k (by have := HL.out; omega) hx)
                obtain ⟨Fl, hF⟩ : ∃ Fl, flat8 (ns.take k) = Fl := ⟨_, rfl⟩
                have HF := Lib.hid (show Fl.length ≤ 200 by rw [← hF, flat8_len, List.length_take]; omega)
                rw [hF] at HG HFL
                rw [hx] at hc
                obtain rfl : bn = s := by injection hs with hs; injection hs
                have HXD := Lib.hid hx
                clear hF hx hs
                go_wp2_with fail
                go_loopw [20, 23] (fun c20 c23 wq => ∃ jB : Nat, jB ≤ 8 ∧ c23 = .int .i64 jB ∧ Hid (Grew W0 wq W0.heap.size c20 (Fl ++ (be8 x).take jB))) (fun _ c23 _ => 8 - (intOf c23).toNat)
                case atStart => exact ⟨0, by omega, rfl, Lib.hid (by simpa using HG.out)⟩
                case round =>
                  clear HG hc
                  obtain ⟨jB, hj, rfl, HG⟩ := hrel
                  by_cases hlj : jB < 8
                  case neg =>
                    obtain rfl : jB = 8 := by omega
                    rw [take_all8, HFL.out] at HG
                    go_wp2_with fail
                    go_roundw
                    case rel => first | exact ⟨k + 1, by omega, by go_num, HG⟩ | ((repeat apply Exists.intro); exact ⟨⟨k + 1, by omega, by go_num, HG⟩, rfl⟩)
                    case measure => simp [intOf] <;> omega
                  case pos =>
                    have hc := ((F_nm.out.keep HG.out.bel).at k hlt)
                    obtain ⟨s2, hs2, hc⟩ := hc
                    obtain rfl : bn = s2 := by injection hs2 with hs2; injection hs2
                    clear hs2
                    rw [HXD.out] at hc
                    have hdj : decide ((jB : Int) < 8) = true := by simp; omega
                    have j0 : (0 : Int) ≤ (jB : Int) := by omega
                    have p0 : (0 : Int) ≤ 56 - 8 * (jB : Int) := by omega
                    have e0 : (56 - 8 * (jB : Int)).toNat = 56 - 8 * jB := by omega
                    have hm0 : min (56 - 8 * jB) 64 = 56 - 8 * jB := by omega
                    have hwj : IntKind.i64.wrap ((jB : Int) + 1) = (jB : Int) + 1 := IntWalk.i64_in _ (by omega)
                    have hw2 : IntKind.i64.wrap (8 * (jB : Int)) = 8 * (jB : Int) := IntWalk.i64_in _ (by omega)
                    have hw3 : IntKind.i64.wrap (56 - 8 * (jB : Int)) = 56 - 8 * (jB : Int) := IntWalk.i64_in _ (by omega)
                    have x0 := HUX.out.1
                    have hpl : (Fl ++ (be8 x).take jB).length ≤ 300 := by have := HF.out; simp [be8_len]; omega
                    have HXM := Lib.hid (show (Fl ++ (be8 x).take jB).length + 1 ≤ maxLen by unfold maxLen; omega)
                    have HXB := Lib.hid (show ((Fl ++ (be8 x).take jB).length + 1) * 1 ≤ 140737488355328 by omega)
                    clear hpl
                    go_wp2_with (at_builtin; (refine wpList_append_own _ rfl _ _ 27 rfl W0.heap.size 5 i0 (.int .u8 0) 1 1 Tryd.underlying27 hi hz0 hz1 hz2 rfl (by decide) _ (Fl ++ (be8 x).take jB).length ((Fl ++ (be8 x).take jB).map (Value.int .u8)) rfl (HG.out.own.keep ((Below.refl _ _).alloc (Nat.le_refl _) _)) _ 1 1 [.int .u8 (x / 2 ^ (56 - 8 * jB) % 256)] rfl rfl (fun jB u hj => by cases jB with | zero => simp at hj; subst hj; simp [go_sem] | succ jB => simp at hj) (fun u hu => by simp at hu; subst hu; rfl) HXM.out HXB.out (HG.out.leA _) ?_); intro v4 w4 hown hgr hnil; have HG4 := Lib.hid (HG.out.snoc hown hgr); clear hown hgr hnil)
                    go_roundw
                    case rel => first | exact ⟨jB + 1, by omega, by go_num, by rw [← be8_snoc x jB hlj rfl, ← List.append_assoc]; exact HG4.out⟩ | ((repeat apply Exists.intro); exact ⟨⟨jB + 1, by omega, by go_num, by rw [← be8_snoc x jB hlj rfl, ← List.append_assoc]; exact HG4.out⟩, rfl⟩)
                    case measure => simp [intOf] <;> omega
        case pos =>
          have d4 : decide ((7900 : Int) < (n2 : Int)) = true := by simp; omega
          have d4n : decide (7900 < n2) = true := by simp; omega
          clear hl
          have F_g := Lib.hid (show Boxed ((w.alloc (.cells #[.int .u64 P, .int .u64 Q, .int .u64 G] 24)).alloc (.cells #[.int .u64 R, .int .u64 S, .int .u64 Z] 26)) (w.heap.size) P Q G from (Boxed.at _ P Q G _ (w.heap.size) (by simp)).alloc _)
          have F_p := Lib.hid (show Arr .u64 ((w.alloc (.cells #[.int .u64 P, .int .u64 Q, .int .u64 G] 24)).alloc (.cells #[.int .u64 R, .int .u64 S, .int .u64 Z] 26)) (w.heap.size + 1) [R, S, Z] from Arr.new .u64 _ [R, S, Z] _ (w.heap.size + 1) (by simp))
          have HBW := Lib.hid (show Below w.heap.size w ((w.alloc (.cells #[.int .u64 P, .int .u64 Q, .int .u64 G] 24)).alloc (.cells #[.int .u64 R, .int .u64 S, .int .u64 Z] 26)) from ((Below.refl _ _).alloc (by simp <;> omega) _).alloc (by simp <;> omega) _)
          go_enter Tryd.func4, Tryd.ntmps4
          obtain ⟨q1_0, q1_1, q1_2, q1_3, q1_4, q1_5⟩ := Arr.k3 F_p.out
          obtain ⟨x0a, x0b, x0c, -⟩ := id F_g.out
          go_wp2_with fail
          clear x0a x0b x0c q1_0 q1_1 q1_2 q1_3 q1_4 q1_5
          refine (alive_yes _).mono ?_
          rintro e w1 ⟨rfl, hb1⟩
          replace F_g := Lib.hid (F_g.out.keep hb1)
          replace F_p := Lib.hid (F_p.out.keep hb1)
          replace HBW := Lib.hid (HBW.out.trans (hb1.mono HBW.out.size))
          clear hb1
          obtain ⟨q1_0, q1_1, q1_2, q1_3, q1_4, q1_5⟩ := Arr.k3 F_p.out
          obtain ⟨x0a, x0b, x0c, -⟩ := id F_g.out
          go_wp2_with fail
          clear x0a x0b x0c q1_0 q1_1 q1_2 q1_3 q1_4 q1_5
          refine (rLong_any _).mono ?_
          rintro e w2 ⟨rfl, rfl⟩
          obtain ⟨q1_0, q1_1, q1_2, q1_3, q1_4, q1_5⟩ := Arr.k3 F_p.out
          obtain ⟨x0a, x0b, x0c, -⟩ := id F_g.out
          go_wp2_with fail
          clear x0a x0b x0c q1_0 q1_1 q1_2 q1_3 q1_4 q1_5
          refine (rLong_any _).mono ?_
          rintro e w3 ⟨rfl, rfl⟩
          obtain ⟨q1_0, q1_1, q1_2, q1_3, q1_4, q1_5⟩ := Arr.k3 F_p.out
          obtain ⟨x0a, x0b, x0c, -⟩ := id F_g.out
          go_wp2_with fail
          go_ret
          exact ⟨rfl, HBW.out⟩
      case pos =>
        have d3 : decide ((7900 : Int) < (n : Int)) = true := by simp; omega
        have d3n : decide (7900 < n) = true := by simp; omega
        clear hk
        have F_g := Lib.hid (show Boxed ((w.alloc (.cells #[.int .u64 P, .int .u64 Q, .int .u64 G] 24)).alloc (.cells #[.int .u64 R, .int .u64 S, .int .u64 Z] 26)) (w.heap.size) P Q G from (Boxed.at _ P Q G _ (w.heap.size) (by simp)).alloc _)
        have F_p := Lib.hid (show Arr .u64 ((w.alloc (.cells #[.int .u64 P, .int .u64 Q, .int .u64 G] 24)).alloc (.cells #[.int .u64 R, .int .u64 S, .int .u64 Z] 26)) (w.heap.size + 1) [R, S, Z] from Arr.new .u64 _ [R, S, Z] _ (w.heap.size + 1) (by simp))
        have HBW := Lib.hid (show Below w.heap.size w ((w.alloc (.cells #[.int .u64 P, .int .u64 Q, .int .u64 G] 24)).alloc (.cells #[.int .u64 R, .int .u64 S, .int .u64 Z] 26)) from ((Below.refl _ _).alloc (by simp <;> omega) _).alloc (by simp <;> omega) _)
        go_enter Tryd.func4, Tryd.ntmps4
        obtain ⟨q1_0, q1_1, q1_2, q1_3, q1_4, q1_5⟩ := Arr.k3 F_p.out
        obtain ⟨x0a, x0b, x0c, -⟩ := id F_g.out
        go_wp2_with fail
        clear x0a x0b x0c q1_0 q1_1 q1_2 q1_3 q1_4 q1_5
        refine (alive_yes _).mono ?_
        rintro e w1 ⟨rfl, hb1⟩
        replace F_g := Lib.hid (F_g.out.keep hb1)
        replace F_p := Lib.hid (F_p.out.keep hb1)
        replace HBW := Lib.hid (HBW.out.trans (hb1.mono HBW.out.size))
        clear hb1
        obtain ⟨q1_0, q1_1, q1_2, q1_3, q1_4, q1_5⟩ := Arr.k3 F_p.out
        obtain ⟨x0a, x0b, x0c, -⟩ := id F_g.out
        go_wp2_with fail
        clear x0a x0b x0c q1_0 q1_1 q1_2 q1_3 q1_4 q1_5
        refine (rLong_any _).mono ?_
        rintro e w2 ⟨rfl, rfl⟩
        obtain ⟨q1_0, q1_1, q1_2, q1_3, q1_4, q1_5⟩ := Arr.k3 F_p.out
        obtain ⟨x0a, x0b, x0c, -⟩ := id F_g.out
        go_wp2_with fail
        clear x0a x0b x0c q1_0 q1_1 q1_2 q1_3 q1_4 q1_5
        refine (rLong_any _).mono ?_
        rintro e w3 ⟨rfl, rfl⟩
        obtain ⟨q1_0, q1_1, q1_2, q1_3, q1_4, q1_5⟩ := Arr.k3 F_p.out
        obtain ⟨x0a, x0b, x0c, -⟩ := id F_g.out
        go_wp2_with fail
        go_ret
        exact ⟨rfl, HBW.out⟩
    case pos =>
      have d2 : decide ((8100 : Int) < (n2 : Int)) = true := by simp; omega
      have d2n : decide (8100 < n2) = true := by simp; omega
      clear hm
      have F_g := Lib.hid (show Boxed ((w.alloc (.cells #[.int .u64 P, .int .u64 Q, .int .u64 G] 24)).alloc (.cells #[.int .u64 R, .int .u64 S, .int .u64 Z] 26)) (w.heap.size) P Q G from (Boxed.at _ P Q G _ (w.heap.size) (by simp)).alloc _)
      have F_p := Lib.hid (show Arr .u64 ((w.alloc (.cells #[.int .u64 P, .int .u64 Q, .int .u64 G] 24)).alloc (.cells #[.int .u64 R, .int .u64 S, .int .u64 Z] 26)) (w.heap.size + 1) [R, S, Z] from Arr.new .u64 _ [R, S, Z] _ (w.heap.size + 1) (by simp))
      have HBW := Lib.hid (show Below w.heap.size w ((w.alloc (.cells #[.int .u64 P, .int .u64 Q, .int .u64 G] 24)).alloc (.cells #[.int .u64 R, .int .u64 S, .int .u64 Z] 26)) from ((Below.refl _ _).alloc (by simp <;> omega) _).alloc (by simp <;> omega) _)
      go_enter Tryd.func4, Tryd.ntmps4
      obtain ⟨q1_0, q1_1, q1_2, q1_3, q1_4, q1_5⟩ := Arr.k3 F_p.out
      obtain ⟨x0a, x0b, x0c, -⟩ := id F_g.out
      go_wp2_with fail
      clear x0a x0b x0c q1_0 q1_1 q1_2 q1_3 q1_4 q1_5
      refine (alive_yes _).mono ?_
      rintro e w1 ⟨rfl, hb1⟩
      replace F_g := Lib.hid (F_g.out.keep hb1)
      replace F_p := Lib.hid (F_p.out.keep hb1)
      replace HBW := Lib.hid (HBW.out.trans (hb1.mono HBW.out.size))
      clear hb1
      obtain ⟨q1_0, q1_1, q1_2, q1_3, q1_4, q1_5⟩ := Arr.k3 F_p.out
      obtain ⟨x0a, x0b, x0c, -⟩ := id F_g.out
      go_wp2_with fail
      clear x0a x0b x0c q1_0 q1_1 q1_2 q1_3 q1_4 q1_5
      refine (rLong_any _).mono ?_
      rintro e w2 ⟨rfl, rfl⟩
      obtain ⟨q1_0, q1_1, q1_2, q1_3, q1_4, q1_5⟩ := Arr.k3 F_p.out
      obtain ⟨x0a, x0b, x0c, -⟩ := id F_g.out
      go_wp2_with fail
      clear x0a x0b x0c q1_0 q1_1 q1_2 q1_3 q1_4 q1_5
      refine (rLong_any _).mono ?_
      rintro e w3 ⟨rfl, rfl⟩
      obtain ⟨q1_0, q1_1, q1_2, q1_3, q1_4, q1_5⟩ := Arr.k3 F_p.out
      obtain ⟨x0a, x0b, x0c, -⟩ := id F_g.out
      go_wp2_with fail
      go_ret
      exact ⟨rfl, HBW.out⟩
  case pos =>
    have d1 : decide ((8100 : Int) < (n : Int)) = true := by simp; omega
    have d1n : decide (8100 < n) = true := by simp; omega
    clear hn
    have F_g := Lib.hid (show Boxed ((w.alloc (.cells #[.int .u64 P, .int .u64 Q, .int .u64 G] 24)).alloc (.cells #[.int .u64 R, .int .u64 S, .int .u64 Z] 26)) (w.heap.size) P Q G from (Boxed.at _ P Q G _ (w.heap.size) (by simp)).alloc _)
    have F_p := Lib.hid (show Arr .u64 ((w.alloc (.cells #[.int .u64 P, .int .u64 Q, .int .u64 G] 24)).alloc (.cells #[.int .u64 R, .int .u64 S, .int .u64 Z] 26)) (w.heap.size + 1) [R, S, Z] from Arr.new .u64 _ [R, S, Z] _ (w.heap.size + 1) (by simp))
    have HBW := Lib.hid (show Below w.heap.size w ((w.alloc (.cells #[.int .u64 P, .int .u64 Q, .int .u64 G] 24)).alloc (.cells #[.int .u64 R, .int .u64 S, .int .u64 Z] 26)) from ((Below.refl _ _).alloc (by simp <;> omega) _).alloc (by simp <;> omega) _)
    go_enter Tryd.func4, Tryd.ntmps4
    obtain ⟨q1_0, q1_1, q1_2, q1_3, q1_4, q1_5⟩ := Arr.k3 F_p.out
    obtain ⟨x0a, x0b, x0c, -⟩ := id F_g.out
    go_wp2_with fail
    clear x0a x0b x0c q1_0 q1_1 q1_2 q1_3 q1_4 q1_5
    refine (alive_yes _).mono ?_
    rintro e w1 ⟨rfl, hb1⟩
    replace F_g := Lib.hid (F_g.out.keep hb1)
    replace F_p := Lib.hid (F_p.out.keep hb1)
    replace HBW := Lib.hid (HBW.out.trans (hb1.mono HBW.out.size))
    clear hb1
    obtain ⟨q1_0, q1_1, q1_2, q1_3, q1_4, q1_5⟩ := Arr.k3 F_p.out
    obtain ⟨x0a, x0b, x0c, -⟩ := id F_g.out
    go_wp2_with fail
    clear x0a x0b x0c q1_0 q1_1 q1_2 q1_3 q1_4 q1_5
    refine (rLong_any _).mono ?_
    rintro e w2 ⟨rfl, rfl⟩
    obtain ⟨q1_0, q1_1, q1_2, q1_3, q1_4, q1_5⟩ := Arr.k3 F_p.out
    obtain ⟨x0a, x0b, x0c, -⟩ := id F_g.out
    go_wp2_with fail
    go_ret
    exact ⟨rfl, HBW.out⟩


set_option maxRecDepth 100000 in
theorem lifted (os : Os) (started : os.Started) (H : Type) (enc : TypeId × Value → H) :
    ReturnsInHanded {} Tryd.checked os 4 .any (fun w args => (Rows.proofContextSpec.pre enc Tryd.prog Tryd.f4 [] false w args ∧ laidMetH Tryd.prog laidL w) ∧ sizedMet enc Tryd.prog Tryd.f4 (OpenSpec.ofChange Rows.proofContextSpec) false w args) (Rows.proofContextSpec.post enc Tryd.prog Tryd.f4 false true false false) := by
  refine returnsInHanded_of_change_and (C := Tryd.checked) (X := fun w _ => laidMetH Tryd.prog laidL w) (fun _ _ _ hh h => h.of_heap hh) own started (by kernel_rfl) Tryd.func4
    (ChangeSpec.witness_shaped (enc := enc) (C := Tryd.checked) (os := os) (X := fun w _ => laidMetH Tryd.prog laidL w) false (World.doorLaid Tryd.prog 19 os) #[.agg #[.int .u64 0, .int .u64 0, .int .u64 0], .int .u64 0, .int .u64 0, .int .u64 0, .agg #[.int .u64 0, .int .u64 0, .int .u64 0], .slice none 0 0, .slice none 0 0] 8 rfl (World.shaped_of_RefB (by kernel_rfl) (by kernel_rfl)) (by kernel_rfl) (by kernel_rfl) (by kernel_rfl) (door_met os _)) ?_
  intro W base args ds gs before hval0 hW _ _ hL _
  have hT := tabs_of_laid hL
  clear hL
  have hval : ∀ (j : Nat) t v, Tryd.f4.params[j]? = some t → args[j]? = some v → Value.okWide Tryd.prog W .any base t v := hval0
  have hW' := hW
  obtain ⟨p, q, hA0, hV, rfl, hfz, hnd⟩ := hW
  have hA : DataW.TrodAll enc Tryd.prog W 0 (fun _ => true) true Tryd.f4.params.toList args.toList ds p := hA0
  rw [Tryd.params4] at hA hval
  have hK := hA
  obtain ⟨v0, vs0, d0, ds0, p0, q0, hargs, rfl, rfl, h0, r0⟩ := trodAll_cons hA
  obtain ⟨v1, vs1, d1, ds1, p1, q1, rfl, rfl, rfl, h1, r1⟩ := trodAll_cons r0
  obtain ⟨v2, vs2, d2, ds2, p2, q2, rfl, rfl, rfl, h2, r2⟩ := trodAll_cons r1
  obtain ⟨v3, vs3, d3, ds3, p3, q3, rfl, rfl, rfl, h3, r3⟩ := trodAll_cons r2
  obtain ⟨v4, vs4, d4, ds4, p4, q4, rfl, rfl, rfl, h4, r4⟩ := trodAll_cons r3
  obtain ⟨v5, vs5, d5, ds5, p5, q5, rfl, rfl, rfl, h5, r5⟩ := trodAll_cons r4
  obtain ⟨v6, vs6, d6, ds6, p6, q6, rfl, rfl, rfl, h6, r6⟩ := trodAll_cons r5
  obtain ⟨rfl, rfl, rfl⟩ := trodAll_nil r6
  obtain rfl : args = #[v0, v1, v2, v3, v4, v5, v6] := by cases args; simp_all
  obtain ⟨rfl, rfl⟩ := trodVars_none hV
  obtain ⟨P, Q, G, rfl, uP, uQ, uG⟩ := open_group (hval 0 24 v0 rfl rfl) h0
  obtain ⟨y, rfl, uy⟩ := open_u64 (hval 1 22 v1 rfl rfl) h1
  obtain ⟨a, rfl, ua⟩ := open_u64 (hval 2 22 v2 rfl rfl) h2
  obtain ⟨d, rfl, ud⟩ := open_u64 (hval 3 22 v3 rfl rfl) h3
  obtain ⟨R, S, Z, rfl, uR, uS, uZ⟩ := open_equal (hval 4 26 v4 rfl rfl) h4
  obtain ⟨tx, n, cp, T, rfl, ht, hb, hz, hnc⟩ := open_bytes (hval 5 27 v5 rfl rfl) h5
  obtain ⟨tx2, n2, cp2, T2, rfl, ht2, hb2, hz2', hnc2⟩ := open_bytes (hval 6 27 v6 rfl rfl) h6
  clear hA0 hval0
  refine (walk P Q G y a d R S Z tx n cp T tx2 n2 cp2 T2 W uP uQ uG uy ua ud uR uS uZ ht hb hz hnc ht2 hb2 hz2' hnc2 hT).mono fun e W' ⟨he, bel⟩ => ?_
  subst he
  exact ⟨_, rfl, _, _, _, [], _, [], hW', trodAll_mk1 (shut_bool Tryd.underlying4 _), trodAll_stays laidOut (by kernel_rfl) hK bel, rfl, bel.frame _, fun h => by cases h⟩

theorem over : Rows.proofContextRow.holds Tryd.pinned (OpenSpec.ofChange Rows.proofContextSpec) :=
  OpenClaim.holds_of_wide 4 Tryd.f4 rfl rfl rfl rfl rfl rfl rfl ⟨rfl, rfl, rfl, rfl, rfl⟩ rfl rfl rfl rfl rfl (by kernel_rfl) Tryd.func4 (by kernel_rfl)
    (of_decide_eq_true (by kernel_rfl)) (by unfold Func.isWrapper; first | (rw [if_pos (by decide +kernel)]; kernel_rfl) | (rw [if_neg (by decide +kernel)]; exact ⟨rfl, rfl⟩))
    (fun os started H enc _ => lifted os started H enc)

theorem proved : Rows.ProofContextCardSaid :=
  Claim7.holds_tied_plain_at .later [] [.data, .data] true (true, "4b41c1e4d249352bcdad7fb442f9b4095dc9194e4b92b27cabf601e235f481d5") false
    over (fun _ h => by cases h) (by kernel_rfl) (fun _ h => by cases h) proofContext_row_tie rfl ⟨rfl, rfl⟩ (by kernel_rfl) rfl
    (fun f fn hf hfn => by
      obtain rfl : f = 4 := Option.some.inj ((show Tryd.prog.funcNamed "suffrage/suffragelaw33.ProofContext" = some 4 by kernel_rfl).symm.trans hf) |>.symm
      obtain rfl : fn = Tryd.f4 := (Option.some.inj (Tryd.func4.symm.trans hfn)).symm
      exact ⟨by kernel_rfl, fun j t ht => by
        rw [Tryd.params4] at ht
        have hm : t ∈ ([24, 22, 22, 22, 26, 27, 27] : List TypeId) := by simpa using Array.mem_of_getElem? ht
        have hall : (([24, 22, 22, 22, 26, 27, 27] : List TypeId).all fun u => !Tryd.prog.wantsStandIn u) = true := by kernel_rfl
        exact (show Tryd.prog.wantsStandIn t = false by simpa using List.all_eq_true.1 hall t hm)⟩)
    (by kernel_rfl)
#print axioms proved
end Go.Proofs.YtmcpfinnhgbcpaaDoor.lawCtx
