/- ShamirHides: the statement: for every input the law returns true, and the arguments read as before. -/
import Derived.Test.YtjfaaicbojnpaaaHdA
import Derived.Test.YtjfaaicbojnpaaaAux34
import Derived.Test.YtjfaaicbojnpaaaOpen
import Derived.Test.YtjfaaicbojnpaaaRows
import Derived.Deep.CutBlock
namespace Go.Proofs.Ytjfaaicbojnpaaa.lawHides
open Go.ChangeShapes Go.WideShapes Go.ChangeAt Go.RowKit Num
set_option linter.unusedSimpArgs false
set_option linter.unusedVariables false

set_option maxRecDepth 100000 in
set_option maxHeartbeats 40000000 in
theorem walk (P Q G : Int) (a : Option Addr) (n c : Nat) (xs : List Int) (t m sec : Int) (w : World) (uP : U64 P) (uQ : U64 Q) (uG : U64 G) (hS : ShI .u64 w a n xs) (hx : ∀ x, x ∈ xs → U64 x) (hc : a = none → c = 0) (hd : n ≤ c) (tl : -9223372036854775808 ≤ t) (tu : t ≤ 9223372036854775807) (m0 : 0 ≤ m) (m8 : m < 256) (us : U64 sec) :
    Calls Try.prog 9 #[.agg #[.int .u64 P, .int .u64 Q, .int .u64 G], .slice a n c, .int .i64 t, .int .u8 m, .int .u64 sec] w fun e w' => e = .returned (.bool true) ∧ Below w.heap.size w w' := by
  have hP := uP.1
  have hQ := uQ.1
  have hG := uG.1
  have HS := Lib.hid hS
  have HX := Lib.hid hx
  have HLN := Lib.hid hS.len
  have hs0 := us.1
  obtain ⟨co, hv⟩ := ValidS.exists P Q G
  obtain ⟨b, ps, ss, hd⟩ : ∃ b ps ss, dealS co P Q G t xs = (b, ps, ss) := ⟨_, _, _, rfl⟩
  have HV := Lib.hid hv
  have HD := Lib.hid hd
  cases b with
  | false =>
    clear hS hx hv hd
    have F_g := Lib.hid (show Boxed (w.alloc (.cells #[.int .u64 P, .int .u64 Q, .int .u64 G] 24)) (w.heap.size) P Q G from Boxed.at _ P Q G _ (w.heap.size) (by simp))
    have HBW := Lib.hid (show Below w.heap.size w (w.alloc (.cells #[.int .u64 P, .int .u64 Q, .int .u64 G] 24)) from (Below.refl _ _).alloc (by simp <;> omega) _)
    go_enter Try.func9, Try.ntmps9
    obtain ⟨x0a, x0b, x0c, -⟩ := id F_g.out
    go_wp2_with fail
    clear x0a x0b x0c
    refine (alive_yes _).mono ?_
    rintro e w1 ⟨rfl, hb1⟩
    replace F_g := Lib.hid (F_g.out.keep hb1)
    replace HBW := Lib.hid (HBW.out.trans (hb1.mono HBW.out.size))
    clear hb1
    obtain ⟨x0a, x0b, x0c, -⟩ := id F_g.out
    go_wp2_with fail
    clear x0a x0b x0c
    refine (deal_any _ hP hQ hG tl tu (HS.out.keep HBW.out) HX.out HV.out HD.out).mono ?_
    rintro e w2 ⟨v1, v2, rfl, ho1, ho2, hb2⟩
    replace F_g := Lib.hid (F_g.out.keep hb2)
    replace HBW := Lib.hid (HBW.out.trans (hb2.mono HBW.out.size))
    clear hb2
    obtain ⟨b1, e1, rfl, hs1⟩ := ho1.shI
    obtain ⟨b2, e2, rfl, hs2⟩ := ho2.shI
    have F_p := Lib.hid hs1
    have F_q := Lib.hid hs2
    clear ho1 ho2 hs1 hs2
    replace F_g := Lib.hid (F_g.out.alloc (.cells #[.slice b1 ps.length e1, .slice b2 ss.length e2] 27))
    replace F_p := Lib.hid (F_p.out.alloc (.cells #[.slice b1 ps.length e1, .slice b2 ss.length e2] 27))
    replace F_q := Lib.hid (F_q.out.alloc (.cells #[.slice b1 ps.length e1, .slice b2 ss.length e2] 27))
    have F_d := Lib.hid (DealBox.at w2 (.slice b1 ps.length e1) (.slice b2 ss.length e2) 27 (w2.heap.size) (by simp))
    replace HBW := Lib.hid (HBW.out.alloc HBW.out.size (.cells #[.slice b1 ps.length e1, .slice b2 ss.length e2] 27))
    obtain ⟨x0a, x0b, x0c, -⟩ := id F_g.out
    obtain ⟨x3a, x3b, x3c, x3d, -⟩ := id F_d.out
    go_wp2_with fail
    go_ret
    exact ⟨rfl, HBW.out⟩
  | true =>
    by_cases hsQ : sec < Q
    case neg =>
      have sQ_ : Q ≤ sec := by omega
      clear hS hx hv hd hsQ
      have F_g := Lib.hid (show Boxed (w.alloc (.cells #[.int .u64 P, .int .u64 Q, .int .u64 G] 24)) (w.heap.size) P Q G from Boxed.at _ P Q G _ (w.heap.size) (by simp))
      have HBW := Lib.hid (show Below w.heap.size w (w.alloc (.cells #[.int .u64 P, .int .u64 Q, .int .u64 G] 24)) from (Below.refl _ _).alloc (by simp <;> omega) _)
      go_enter Try.func9, Try.ntmps9
      obtain ⟨x0a, x0b, x0c, -⟩ := id F_g.out
      go_wp2_with fail
      clear x0a x0b x0c
      refine (alive_yes _).mono ?_
      rintro e w1 ⟨rfl, hb1⟩
      replace F_g := Lib.hid (F_g.out.keep hb1)
      replace HBW := Lib.hid (HBW.out.trans (hb1.mono HBW.out.size))
      clear hb1
      obtain ⟨x0a, x0b, x0c, -⟩ := id F_g.out
      go_wp2_with fail
      clear x0a x0b x0c
      refine (deal_any _ hP hQ hG tl tu (HS.out.keep HBW.out) HX.out HV.out HD.out).mono ?_
      rintro e w2 ⟨v1, v2, rfl, ho1, ho2, hb2⟩
      replace F_g := Lib.hid (F_g.out.keep hb2)
      replace HBW := Lib.hid (HBW.out.trans (hb2.mono HBW.out.size))
      clear hb2
      obtain ⟨b1, e1, rfl, hs1⟩ := ho1.shI
      obtain ⟨b2, e2, rfl, hs2⟩ := ho2.shI
      have F_p := Lib.hid hs1
      have F_q := Lib.hid hs2
      clear ho1 ho2 hs1 hs2
      replace F_g := Lib.hid (F_g.out.alloc (.cells #[.slice b1 ps.length e1, .slice b2 ss.length e2] 27))
      replace F_p := Lib.hid (F_p.out.alloc (.cells #[.slice b1 ps.length e1, .slice b2 ss.length e2] 27))
      replace F_q := Lib.hid (F_q.out.alloc (.cells #[.slice b1 ps.length e1, .slice b2 ss.length e2] 27))
      have F_d := Lib.hid (DealBox.at w2 (.slice b1 ps.length e1) (.slice b2 ss.length e2) 27 (w2.heap.size) (by simp))
      replace HBW := Lib.hid (HBW.out.alloc HBW.out.size (.cells #[.slice b1 ps.length e1, .slice b2 ss.length e2] 27))
      obtain ⟨x0a, x0b, x0c, -⟩ := id F_g.out
      obtain ⟨x3a, x3b, x3c, x3d, -⟩ := id F_d.out
      go_wp2_with fail
      go_ret
      exact ⟨rfl, HBW.out⟩
    case pos =>
      obtain ⟨hV, hbl, hlt, hnt, hps, hss⟩ := dealS_yes hv hd
      obtain ⟨t0, t8, tQ⟩ := numS_true hnt
      obtain ⟨tn, rfl⟩ : ∃ tn : Nat, t = (tn : Int) := ⟨t.toNat, by omega⟩
      rw [show (tn : Int).toNat = tn by omega] at hss
      obtain ⟨l1, l8, -⟩ := belowS_true hbl
      obtain ⟨p5, p3, _, pq, g2, gP⟩ := id hV.1
      have q3 : Q < 1073741824 := by omega
      have q2 := hV.grp.pQ.1
      have hnn : n = xs.length := HLN.out
      have hn8 : n ≤ 8 := by omega
      have hntn : n ≤ tn := by omega
      have HNT := Lib.hid hnt
      have HPL := Lib.hid (show ps.length = n by rw [hps, pledges_len, hnn])
      have HQL := Lib.hid (show ss.length = tn by rw [hss, shares_len])
      have HSR := Lib.hid (show ∀ x, x ∈ ss → 0 ≤ x ∧ x < Q by
        intro x hx; rw [hss, sharesS] at hx; obtain ⟨j, -, rfl⟩ := List.mem_map.1 hx; exact valS_range _ (by omega) _)
      have HVAL := Lib.hid hV
      obtain ⟨il, hil⟩ : ∃ il, (chosenI m tn).length = il := ⟨_, rfl⟩
      have HIL := Lib.hid hil
      have HCL := Lib.hid (chosen_len m ss tn)
      have HP1 := Lib.hid (show (((List.range tn).filter (bitS m)).map fun j : Nat => ((j : Int) + 1, ss.getD j 0)).map (·.1) = chosenI m tn by simp [chosenI])
      have HP2 := Lib.hid (show (((List.range tn).filter (bitS m)).map fun j : Nat => ((j : Int) + 1, ss.getD j 0)).map (·.2) = chosenV m ss tn by simp [chosenV])
      by_cases hin : il < n
      case neg =>
        have d1 : decide ((n : Int) ≤ (il : Int)) = true := by simp; omega
        have d1n : decide (n ≤ il) = true := by simp; omega
        clear hS hx hv hd hps hss hnt hbl hV pq hil hnn
        have F_g := Lib.hid (show Boxed (w.alloc (.cells #[.int .u64 P, .int .u64 Q, .int .u64 G] 24)) (w.heap.size) P Q G from Boxed.at _ P Q G _ (w.heap.size) (by simp))
        have HBW := Lib.hid (show Below w.heap.size w (w.alloc (.cells #[.int .u64 P, .int .u64 Q, .int .u64 G] 24)) from (Below.refl _ _).alloc (by simp <;> omega) _)
        go_enter Try.func9, Try.ntmps9
        obtain ⟨x0a, x0b, x0c, -⟩ := id F_g.out
        go_wp2_with fail
        clear x0a x0b x0c
        refine (alive_yes _).mono ?_
        rintro e w1 ⟨rfl, hb1⟩
        replace F_g := Lib.hid (F_g.out.keep hb1)
        replace HBW := Lib.hid (HBW.out.trans (hb1.mono HBW.out.size))
        clear hb1
        obtain ⟨x0a, x0b, x0c, -⟩ := id F_g.out
        go_wp2_with fail
        clear x0a x0b x0c
        refine (deal_any _ hP hQ hG tl tu (HS.out.keep HBW.out) HX.out HV.out HD.out).mono ?_
        rintro e w2 ⟨v1, v2, rfl, ho1, ho2, hb2⟩
        replace F_g := Lib.hid (F_g.out.keep hb2)
        replace HBW := Lib.hid (HBW.out.trans (hb2.mono HBW.out.size))
        clear hb2
        obtain ⟨b1, e1, rfl, hs1⟩ := ho1.shI
        obtain ⟨b2, e2, rfl, hs2⟩ := ho2.shI
        have F_p := Lib.hid hs1
        have F_q := Lib.hid hs2
        clear ho1 ho2 hs1 hs2
        rw [HPL.out] at F_p ⊢
        rw [HQL.out] at F_q ⊢
        replace F_g := Lib.hid (F_g.out.alloc (.cells #[.slice b1 n e1, .slice b2 tn e2] 27))
        replace F_p := Lib.hid (F_p.out.alloc (.cells #[.slice b1 n e1, .slice b2 tn e2] 27))
        replace F_q := Lib.hid (F_q.out.alloc (.cells #[.slice b1 n e1, .slice b2 tn e2] 27))
        have F_d := Lib.hid (DealBox.at w2 (.slice b1 n e1) (.slice b2 tn e2) 27 (w2.heap.size) (by simp))
        replace HBW := Lib.hid (HBW.out.alloc HBW.out.size (.cells #[.slice b1 n e1, .slice b2 tn e2] 27))
        obtain ⟨x0a, x0b, x0c, -⟩ := id F_g.out
        obtain ⟨x3a, x3b, x3c, x3d, -⟩ := id F_d.out
        go_wp2_with fail
        clear x0a x0b x0c x3a x3b x3c x3d
        have F_d' := Lib.hid (show DealBox (w2.alloc (.cells #[.slice b1 n e1, .slice b2 tn e2] 27)) w2.heap.size (.slice b1 n e1) (.slice b2 tn e2) from F_d.out)
        clear F_d
        have F_d := F_d'
        clear F_d'
        generalize (w2.alloc (.cells #[.slice b1 n e1, .slice b2 tn e2] 27)) = wk at F_g F_p F_q F_d HBW ⊢
        generalize w2.heap.size = Bd at F_d ⊢
        refine (chosen_any _ F_q.out (by omega) m0 m8).mono ?_
        rintro e wj ⟨v3, v4, rfl, ho1, ho2, hbk⟩
        have O3 := Lib.hid ho1
        have O4 := Lib.hid ho2
        have HK := Lib.hid hbk
        clear ho1 ho2 hbk
        obtain ⟨ca, cc, rfl⟩ := O3.out.sl
        obtain ⟨da, dc, rfl⟩ := O4.out.sl
        rw [HIL.out] at O3 ⊢
        rw [HCL.out, HIL.out] at O4 ⊢
        obtain ⟨x0a, x0b, x0c, -⟩ := id (F_g.out.keep HK.out)
        obtain ⟨y0a, y0b, -⟩ := id (F_d.out.keep HK.out)
        go_wp2_with fail
        clear x0a x0b x0c y0a y0b
        go_ret
        exact ⟨rfl, HBW.out.trans (HK.out.mono HBW.out.size)⟩
      case pos =>
        have d1 : decide ((n : Int) ≤ (il : Int)) = false := by simp; omega
        have d1n : decide (n ≤ il) = false := by simp; omega
        have HST := Lib.hid (HidI.start (Q := Q) (m := m) (L := n) (by omega) HQL.out HSR.out (by rw [HIL.out]; omega))
        clear hS hx hv hd hps hss hnt hbl hV pq hil hnn
        have F_g := Lib.hid (show Boxed (w.alloc (.cells #[.int .u64 P, .int .u64 Q, .int .u64 G] 24)) (w.heap.size) P Q G from Boxed.at _ P Q G _ (w.heap.size) (by simp))
        have HBW := Lib.hid (show Below w.heap.size w (w.alloc (.cells #[.int .u64 P, .int .u64 Q, .int .u64 G] 24)) from (Below.refl _ _).alloc (by simp <;> omega) _)
        go_enter Try.func9, Try.ntmps9
        obtain ⟨x0a, x0b, x0c, -⟩ := id F_g.out
        go_wp2_with fail
        clear x0a x0b x0c
        refine (alive_yes _).mono ?_
        rintro e w1 ⟨rfl, hb1⟩
        replace F_g := Lib.hid (F_g.out.keep hb1)
        replace HBW := Lib.hid (HBW.out.trans (hb1.mono HBW.out.size))
        clear hb1
        obtain ⟨x0a, x0b, x0c, -⟩ := id F_g.out
        go_wp2_with fail
        clear x0a x0b x0c
        refine (deal_any _ hP hQ hG tl tu (HS.out.keep HBW.out) HX.out HV.out HD.out).mono ?_
        rintro e w2 ⟨v1, v2, rfl, ho1, ho2, hb2⟩
        replace F_g := Lib.hid (F_g.out.keep hb2)
        replace HBW := Lib.hid (HBW.out.trans (hb2.mono HBW.out.size))
        clear hb2
        obtain ⟨b1, e1, rfl, hs1⟩ := ho1.shI
        obtain ⟨b2, e2, rfl, hs2⟩ := ho2.shI
        have F_p := Lib.hid hs1
        have F_q := Lib.hid hs2
        clear ho1 ho2 hs1 hs2
        rw [HPL.out] at F_p ⊢
        rw [HQL.out] at F_q ⊢
        replace F_g := Lib.hid (F_g.out.alloc (.cells #[.slice b1 n e1, .slice b2 tn e2] 27))
        replace F_p := Lib.hid (F_p.out.alloc (.cells #[.slice b1 n e1, .slice b2 tn e2] 27))
        replace F_q := Lib.hid (F_q.out.alloc (.cells #[.slice b1 n e1, .slice b2 tn e2] 27))
        have F_d := Lib.hid (DealBox.at w2 (.slice b1 n e1) (.slice b2 tn e2) 27 (w2.heap.size) (by simp))
        replace HBW := Lib.hid (HBW.out.alloc HBW.out.size (.cells #[.slice b1 n e1, .slice b2 tn e2] 27))
        obtain ⟨x0a, x0b, x0c, -⟩ := id F_g.out
        obtain ⟨x3a, x3b, x3c, x3d, -⟩ := id F_d.out
        go_wp2_with fail
        clear x0a x0b x0c x3a x3b x3c x3d
        have F_d' := Lib.hid (show DealBox (w2.alloc (.cells #[.slice b1 n e1, .slice b2 tn e2] 27)) w2.heap.size (.slice b1 n e1) (.slice b2 tn e2) from F_d.out)
        clear F_d
        have F_d := F_d'
        clear F_d'
        generalize (w2.alloc (.cells #[.slice b1 n e1, .slice b2 tn e2] 27)) = wk at F_g F_p F_q F_d HBW ⊢
        generalize w2.heap.size = Bd at F_d ⊢
        refine (chosen_any _ F_q.out (by omega) m0 m8).mono ?_
        rintro e wj ⟨v3, v4, rfl, ho1, ho2, hbk⟩
        have O3 := Lib.hid ho1
        have O4 := Lib.hid ho2
        have HK := Lib.hid hbk
        clear ho1 ho2 hbk
        obtain ⟨ca, cc, rfl⟩ := O3.out.sl
        obtain ⟨da, dc, rfl⟩ := O4.out.sl
        rw [HIL.out] at O3 ⊢
        rw [HCL.out, HIL.out] at O4 ⊢
        obtain ⟨x0a, x0b, x0c, -⟩ := id (F_g.out.keep HK.out)
        obtain ⟨y0a, y0b, -⟩ := id (F_d.out.keep HK.out)
        go_upto_block 0 with fail
        clear x0a x0b x0c y0a y0b
        clear d1 d1n
        go_cut [14, 15, 16, 17] from 61 to 118 (fun c14 c15 c16 c17 wx => ∃ (i : Nat) (pp : List (Int × Int)) (l : Nat) (ga : Option Addr) (gc : Nat) (gb : Option Addr) (gd : Nat), c14 = .slice ga l gc ∧ c15 = .slice gb l gd ∧ i ≤ tn ∧ Hid (pp.length = l) ∧ (i < tn → ¬ l + 1 < n) ∧ Hid (HidI Q tn m n ss i pp) ∧ Hid (ShI .i64 wx ga l (pp.map (·.1))) ∧ Hid (ShI .u64 wx gb l (pp.map (·.2))) ∧ Hid (Below wk.heap.size wk wx))
        case first =>
          as_aux_lemma =>
         go_wp2_with fail
         go_loopw [14, 15, 16] (fun c14 c15 c16 wr => ∃ i : Nat, i ≤ tn ∧ c16 = .int .i64 ((i : Int) + 1) ∧ ∃ pp : List (Int × Int), Hid (HidI Q tn m n ss i pp) ∧ Hid (OwnI wr wk.heap.size c14 (pp.map (·.1))) ∧ Hid (OwnU wr wk.heap.size c15 (pp.map (·.2))) ∧ Hid (Below wk.heap.size wk wr)) (fun _ _ c16 _ => tn + 1 - (intOf c16).toNat)
         case atStart => exact ⟨0, Nat.zero_le _, rfl, _, HST.out, (by rw [HP1.out]; first | exact O3 | exact O3.out), (by rw [HP2.out]; first | exact O4 | exact O4.out), HK.out⟩
         case round =>
           clear HK O3 O4
           obtain ⟨i, hi, rfl, pp, HI, F_i, F_s, HK⟩ := hrel
           obtain ⟨wo, rfl⟩ : ∃ wo : World, wo = wr := ⟨_, rfl⟩
           obtain ⟨l, hl⟩ : ∃ l, pp.length = l := ⟨_, rfl⟩
           have HL := Lib.hid hl
           have hwi : IntKind.i64.wrap ((i : Int) + 1 + 1) = (i : Int) + 1 + 1 := IntWalk.i64_in _ (by omega)
           have hle1 := HI.out.len
           rw [hl] at hle1
           have hwl : IntKind.i64.wrap ((l : Int) + 1) = (l : Int) + 1 := IntWalk.i64_in _ (by omega)
           obtain ⟨ga, gc, rfl, hsi⟩ := F_i.out.shI
           obtain ⟨gb, gd, rfl, hsv⟩ := F_s.out.shI
           have HSI := Lib.hid hsi
           have HSV := Lib.hid hsv
           clear hsi hsv
           simp only [List.length_map] at HSI HSV F_i F_s ⊢
           rw [HL.out] at HSI HSV F_i F_s ⊢
           clear hl
           by_cases hgo : i < tn ∧ l + 1 < n
           case neg =>
          by_cases hit : i < tn
          case neg =>
            have d1 : decide ((i : Int) + 1 ≤ (tn : Int)) = false := by simp; omega
            have d1n : decide (i + 1 ≤ tn) = false := by simp; omega
            have d1m : decide (i < tn) = false := by simp; omega
            go_wp2_with fail
            go_meet
            exact ⟨i, pp, l, ga, gc, gb, gd, rfl, rfl, hi, HL, (fun h => absurd h hit), HI, HSI, HSV, HK⟩
          case pos =>
            have d1 : decide ((i : Int) + 1 ≤ (tn : Int)) = true := by simp; omega
            have d1n : decide (i + 1 ≤ tn) = true := by simp; omega
            have d1m : decide (i < tn) = true := by simp; omega
            have d2 : decide ((l : Int) + 1 < (n : Int)) = false := by simp; omega
            have d2n : decide (l + 1 < n) = false := by simp; omega
            go_wp2_with fail
            go_meet
            exact ⟨i, pp, l, ga, gc, gb, gd, rfl, rfl, hi, HL, (fun h h2 => hgo ⟨h, h2⟩), HI, HSI, HSV, HK⟩
           case pos =>
             obtain ⟨hit, hln⟩ := hgo
             have d1 : decide ((i : Int) + 1 ≤ (tn : Int)) = true := by simp; omega
             have d1n : decide (i + 1 ≤ tn) = true := by simp; omega
             have d1m : decide (i < tn) = true := by simp; omega
             have d2 : decide ((l : Int) + 1 < (n : Int)) = true := by simp; omega
             have d2n : decide (l + 1 < n) = true := by simp; omega
             have hil : i ≤ l := by have := HI.out.low.1; rw [HL.out] at this; exact this
             have hi8 : i ≤ 8 := by omega
             go_wp2_with fail
             go_loopw [17] (fun c17 wq => ∃ k : Nat, k ≤ i ∧ c17 = .int .i64 k ∧ wq = wo) (fun c17 _ => i - (intOf c17).toNat)
             case atStart => exact ⟨0, Nat.zero_le _, rfl, rfl⟩
             case round =>
               obtain ⟨k, hk, rfl, rfl⟩ := hrel
               have hwk : IntKind.i64.wrap ((k : Int) + 1) = (k : Int) + 1 := IntWalk.i64_in _ (by omega)
               have k0 : (0 : Int) ≤ (k : Int) := by omega
               by_cases hki : k < i
               case pos =>
                 have hkl : k < l := by omega
                 have e1 : decide ((k : Int) < (l : Int)) = true := by simp; omega
                 have e1n : decide (k < l) = true := by simp; omega
                 have e1i : (k : Int) < (l : Int) := by omega
                 obtain ⟨sg_, fg, hga, hsg, hcg, -⟩ := HSI.out.at k hkl
                 have hv : (pp.map (·.1)).getD k 0 = (k : Int) + 1 := by
                   have hkp : k < pp.length := by rw [HL.out]; exact hkl
                   rw [getD_at (by simpa using hkp), List.getElem_map]
                   exact HI.out.low.2 k hkp hki
                 rw [hv] at hcg
                 subst hga
                 have e2 : decide ((k : Int) + 1 < (i : Int) + 1) = true := by simp; omega
                 have e2n : decide (k < i) = true := by simpa using hki
                 clear hv
                 go_wp2_with fail
                 go_roundw
                 case rel => first | exact ⟨k + 1, by omega, by go_num, trivial⟩ | exact ⟨k + 1, by omega, by go_num, rfl⟩
                 case measure => simp [intOf] <;> omega
               case neg =>
                 as_aux_lemma =>
                   obtain rfl : i = k := by omega
                   have wi : IntKind.i64.wrap ((i : Int) + 1) = (i : Int) + 1 := IntWalk.i64_in _ (by omega)
                   have il1 : (i : Int) ≤ (l : Int) := by omega
                   rcases F_i.out.cut hil with ⟨rfl, zi1, zi2, zi3, zi4⟩ | ⟨gI, AI, rfl, zi1, zi2, zi3, zi4⟩
                   · as_aux_lemma =>
                     have hat : ¬ i < l := by omega
                     have e1 : decide ((i : Int) < (l : Int)) = false := by simp; omega
                     have e1n : decide (i < l) = false := by simp; omega
                     have HNE := Lib.hid (show ∀ h : i < pp.length, pp[i].1 ≠ (i : Int) + 1 from fun h => absurd h (by rw [HL.out]; omega))
                     have ZH := Lib.hid (show l = 0 ∧ gc = 0 ∧ i = 0 ∧ pp.map (·.1) = [] from ⟨zi1, zi2, zi3, zi4⟩)
                     clear zi1 zi2 zi3 zi4
                     go_wp2_with fail
                     obtain ⟨zi1, zi2, zi3, zi4⟩ := ZH.out
                     have pi := Lib.hid (show OwnI wr wk.heap.size (.slice none i gc) ((pp.map (·.1)).take i) by rw [zi3, zi2, zi4]; exact OwnI.nil _ _)
                     have ti := Lib.hid (show ShI .i64 wr none (l - i) ((pp.map (·.1)).drop i) by rw [zi1, zi3, zi4]; exact ShI.nil _ _ _)
                     have ciI : (i : Int) ≤ (gc : Int) := by omega
                     clear zi1 zi2 zi3 zi4
                     go_region_law (first
                       | (refine wanted_wp rfl (wp_append_si (.tmp 104) (.tmp 107) rfl wk.heap.size (.slice (some ⟨wr.heap.size, 0, none⟩) 1 1) [((i : Int) + 1)] ((pp.map (·.1)).drop i) none (l - i) (gc - i) ?jjv ?jjx ?jjo ?jjs ?jjn ?jjm ?jjb ?_)
                          case jjv => kernel_rfl
                          case jjx => kernel_rfl
                          case jjo => exact (OwnI.lit HK.out.size).drew
                          case jjs => exact ti.out.keep (((Below.refl _ _).alloc (Nat.le_refl _) _).drew)
                          case jjn => omega
                          case jjm => simp
                          case jjb => exact Nat.le_trans HK.out.size (show Below wr.heap.size wr _ from ((Below.refl _ _).alloc (Nat.le_refl _) _).drew).size
                          intro v8 w8i h8 g8
                          obtain ⟨a8, m8, c8, rfl, E8, S8, P8, V8, B8, Z8⟩ := ins1_i HK.out pi.out F_s.out h8 g8
                          have H8e := Lib.hid E8
                          have H8s := Lib.hid S8
                          have H8p := Lib.hid P8
                          have H8v := Lib.hid V8
                          have H8b := Lib.hid B8
                          clear h8 g8 E8 S8 P8 V8 B8 Z8)
                       | (refine wanted_wp rfl (wp_append_si (.tmp 102) (.tmp 108) rfl wk.heap.size (.slice none i gc) ((pp.map (·.1)).take i) (((i : Int) + 1) :: (pp.map (·.1)).drop i) a8 m8 c8 ?jjv ?jjx ?jjo ?jjs ?jjn ?jjm ?jjb ?_)
                          case jjv => kernel_rfl
                          case jjx => kernel_rfl
                          case jjo => exact H8p.out
                          case jjs => exact H8s.out
                          case jjn => rw [H8e.out]; have := HL.out; simp; omega
                          case jjm => have := HL.out; simp; omega
                          case jjb => exact H8b.out.size
                          intro v9 w9i h9 g9
                          obtain ⟨a9i, m9, c9i, rfl, E9, S9, V9, B9, Z9⟩ := ins2_i H8b.out H8p.out H8v.out h9 g9
                          have e9 : m9 = l + 1 := by rw [E9]; have := HL.out; simp; omega
                          have HOi := Lib.hid S9
                          have HVi := Lib.hid V9
                          have HBi := Lib.hid B9
                          clear h9 g9 E9 S9 V9 B9 Z9 H8e H8s H8p H8v H8b
                          subst e9))
                     go_wp2_with fail
                     clear ciI
                     rcases HVi.out.cut hil with ⟨rfl, zs1, zs2, zs3, zs4⟩ | ⟨gS, AS, rfl, zs1, zs2, zs3, zs4⟩
                     · have ps_ := Lib.hid (show OwnU w9i wk.heap.size (.slice none i gd) ((pp.map (·.2)).take i) by rw [zs3, zs2, zs4]; exact OwnU.nil _ _)
                       have ts_ := Lib.hid (show ShI .u64 w9i none (l - i) ((pp.map (·.2)).drop i) by rw [zs1, zs3, zs4]; exact ShI.nil _ _ _)
                       have csI : (i : Int) ≤ (gd : Int) := by omega
                       clear zs1 zs2 zs3 zs4
                       go_region_law (first
                         | (refine wanted_wp rfl (wp_append_su (.tmp 113) (.tmp 116) rfl wk.heap.size (.slice (some ⟨w9i.heap.size, 0, none⟩) 1 1) [(0 : Int)] ((pp.map (·.2)).drop i) none (l - i) (gd - i) ?jjv ?jjx ?jjo ?jjs ?jjn ?jjm ?jjb ?_)
                            case jjv => kernel_rfl
                            case jjx => kernel_rfl
                            case jjo => exact (OwnU.lit HBi.out.size).drew'
                            case jjs => exact ts_.out.keep (((Below.refl _ _).alloc (Nat.le_refl _) _).drew)
                            case jjn => omega
                            case jjm => simp
                            case jjb => exact Nat.le_trans HBi.out.size (show Below w9i.heap.size w9i _ from ((Below.refl _ _).alloc (Nat.le_refl _) _).drew).size
                            intro v8 w8s h8 g8
                            obtain ⟨a8, m8, c8, rfl, E8, S8, P8, V8, B8, Z8⟩ := ins1_u HBi.out ps_.out HOi.out h8 g8
                            have H8e := Lib.hid E8
                            have H8s := Lib.hid S8
                            have H8p := Lib.hid P8
                            have H8v := Lib.hid V8
                            have H8b := Lib.hid B8
                            clear h8 g8 E8 S8 P8 V8 B8 Z8)
                         | (refine wanted_wp rfl (wp_append_su (.tmp 112) (.tmp 117) rfl wk.heap.size (.slice none i gd) ((pp.map (·.2)).take i) ((0 : Int) :: (pp.map (·.2)).drop i) a8 m8 c8 ?jjv ?jjx ?jjo ?jjs ?jjn ?jjm ?jjb ?_)
                            case jjv => kernel_rfl
                            case jjx => kernel_rfl
                            case jjo => exact H8p.out
                            case jjs => exact H8s.out
                            case jjn => rw [H8e.out]; have := HL.out; simp; omega
                            case jjm => have := HL.out; simp; omega
                            case jjb => exact H8b.out.size
                            intro v9 w9s h9 g9
                            obtain ⟨a9s, m9, c9s, rfl, E9, S9, V9, B9, Z9⟩ := ins2_u H8b.out H8p.out H8v.out h9 g9
                            have e9 : m9 = l + 1 := by rw [E9]; have := HL.out; simp; omega
                            have HOs := Lib.hid S9
                            have HVs := Lib.hid V9
                            have HBs := Lib.hid B9
                            clear h9 g9 E9 S9 V9 B9 Z9 H8e H8s H8p H8v H8b
                            subst e9))
                       go_wp2_with fail
                       go_roundw
                       case rel => exact ⟨i + 1, by omega, by go_num, insAt i ((i : Int) + 1, 0) pp, HI.out.ins (by omega) hit (by rw [HL.out]; exact hln) HNE.out, Lib.hid (by rw [insAt_map]; exact HVs.out), Lib.hid (by rw [insAt_map]; exact HOs.out), HBs⟩
                       case measure => simp [intOf] <;> omega
                     · have ps_ := Lib.hid zs4
                       have ts_ := Lib.hid zs3
                       have csI : (i : Int) ≤ (gd : Int) := by omega
                       clear zs4 zs3
                       go_region_law (first
                         | (refine wanted_wp rfl (wp_append_su (.tmp 113) (.tmp 116) rfl wk.heap.size (.slice (some ⟨w9i.heap.size, 0, none⟩) 1 1) [(0 : Int)] ((pp.map (·.2)).drop i) AS (l - i) (gd - i) ?jjv ?jjx ?jjo ?jjs ?jjn ?jjm ?jjb ?_)
                            case jjv => kernel_rfl
                            case jjx => kernel_rfl
                            case jjo => exact (OwnU.lit HBi.out.size).drew'
                            case jjs => exact ts_.out.keep (((Below.refl _ _).alloc (Nat.le_refl _) _).drew)
                            case jjn => omega
                            case jjm => simp
                            case jjb => exact Nat.le_trans HBi.out.size (show Below w9i.heap.size w9i _ from ((Below.refl _ _).alloc (Nat.le_refl _) _).drew).size
                            intro v8 w8s h8 g8
                            obtain ⟨a8, m8, c8, rfl, E8, S8, P8, V8, B8, Z8⟩ := ins1_u HBi.out ps_.out HOi.out h8 g8
                            have H8e := Lib.hid E8
                            have H8s := Lib.hid S8
                            have H8p := Lib.hid P8
                            have H8v := Lib.hid V8
                            have H8b := Lib.hid B8
                            clear h8 g8 E8 S8 P8 V8 B8 Z8)
                         | (refine wanted_wp rfl (wp_append_su (.tmp 112) (.tmp 117) rfl wk.heap.size (.slice (some ⟨gS, 0, none⟩) i gd) ((pp.map (·.2)).take i) ((0 : Int) :: (pp.map (·.2)).drop i) a8 m8 c8 ?jjv ?jjx ?jjo ?jjs ?jjn ?jjm ?jjb ?_)
                            case jjv => kernel_rfl
                            case jjx => kernel_rfl
                            case jjo => exact H8p.out
                            case jjs => exact H8s.out
                            case jjn => rw [H8e.out]; have := HL.out; simp; omega
                            case jjm => have := HL.out; simp; omega
                            case jjb => exact H8b.out.size
                            intro v9 w9s h9 g9
                            obtain ⟨a9s, m9, c9s, rfl, E9, S9, V9, B9, Z9⟩ := ins2_u H8b.out H8p.out H8v.out h9 g9
                            have e9 : m9 = l + 1 := by rw [E9]; have := HL.out; simp; omega
                            have HOs := Lib.hid S9
                            have HVs := Lib.hid V9
                            have HBs := Lib.hid B9
                            clear h9 g9 E9 S9 V9 B9 Z9 H8e H8s H8p H8v H8b
                            subst e9))
                       go_wp2_with fail
                       go_roundw
                       case rel => exact ⟨i + 1, by omega, by go_num, insAt i ((i : Int) + 1, 0) pp, HI.out.ins (by omega) hit (by rw [HL.out]; exact hln) HNE.out, Lib.hid (by rw [insAt_map]; exact HVs.out), Lib.hid (by rw [insAt_map]; exact HOs.out), HBs⟩
                       case measure => simp [intOf] <;> omega
                   · by_cases hat : i < l
                     case neg =>
                       as_aux_lemma =>
                       have e1 : decide ((i : Int) < (l : Int)) = false := by simp; omega
                       have e1n : decide (i < l) = false := by simp; omega
                       have HNE := Lib.hid (show ∀ h : i < pp.length, pp[i].1 ≠ (i : Int) + 1 from fun h => absurd h (by rw [HL.out]; omega))
                       go_wp2_with fail
                       have pi := Lib.hid zi4
                       have ti := Lib.hid zi3
                       have ciI : (i : Int) ≤ (gc : Int) := by omega
                       clear zi4 zi3
                       go_region_law (first
                         | (refine wanted_wp rfl (wp_append_si (.tmp 104) (.tmp 107) rfl wk.heap.size (.slice (some ⟨wr.heap.size, 0, none⟩) 1 1) [((i : Int) + 1)] ((pp.map (·.1)).drop i) AI (l - i) (gc - i) ?jjv ?jjx ?jjo ?jjs ?jjn ?jjm ?jjb ?_)
                            case jjv => kernel_rfl
                            case jjx => kernel_rfl
                            case jjo => exact (OwnI.lit HK.out.size).drew
                            case jjs => exact ti.out.keep (((Below.refl _ _).alloc (Nat.le_refl _) _).drew)
                            case jjn => omega
                            case jjm => simp
                            case jjb => exact Nat.le_trans HK.out.size (show Below wr.heap.size wr _ from ((Below.refl _ _).alloc (Nat.le_refl _) _).drew).size
                            intro v8 w8i h8 g8
                            obtain ⟨a8, m8, c8, rfl, E8, S8, P8, V8, B8, Z8⟩ := ins1_i HK.out pi.out F_s.out h8 g8
                            have H8e := Lib.hid E8
                            have H8s := Lib.hid S8
                            have H8p := Lib.hid P8
                            have H8v := Lib.hid V8
                            have H8b := Lib.hid B8
                            clear h8 g8 E8 S8 P8 V8 B8 Z8)
                         | (refine wanted_wp rfl (wp_append_si (.tmp 102) (.tmp 108) rfl wk.heap.size (.slice (some ⟨gI, 0, none⟩) i gc) ((pp.map (·.1)).take i) (((i : Int) + 1) :: (pp.map (·.1)).drop i) a8 m8 c8 ?jjv ?jjx ?jjo ?jjs ?jjn ?jjm ?jjb ?_)
                            case jjv => kernel_rfl
                            case jjx => kernel_rfl
                            case jjo => exact H8p.out
                            case jjs => exact H8s.out
                            case jjn => rw [H8e.out]; have := HL.out; simp; omega
                            case jjm => have := HL.out; simp; omega
                            case jjb => exact H8b.out.size
                            intro v9 w9i h9 g9
                            obtain ⟨a9i, m9, c9i, rfl, E9, S9, V9, B9, Z9⟩ := ins2_i H8b.out H8p.out H8v.out h9 g9
                            have e9 : m9 = l + 1 := by rw [E9]; have := HL.out; simp; omega
                            have HOi := Lib.hid S9
                            have HVi := Lib.hid V9
                            have HBi := Lib.hid B9
                            clear h9 g9 E9 S9 V9 B9 Z9 H8e H8s H8p H8v H8b
                            subst e9))
                       go_wp2_with fail
                       clear ciI
                       rcases HVi.out.cut hil with ⟨rfl, zs1, zs2, zs3, zs4⟩ | ⟨gS, AS, rfl, zs1, zs2, zs3, zs4⟩
                       · have ps_ := Lib.hid (show OwnU w9i wk.heap.size (.slice none i gd) ((pp.map (·.2)).take i) by rw [zs3, zs2, zs4]; exact OwnU.nil _ _)
                         have ts_ := Lib.hid (show ShI .u64 w9i none (l - i) ((pp.map (·.2)).drop i) by rw [zs1, zs3, zs4]; exact ShI.nil _ _ _)
                         have csI : (i : Int) ≤ (gd : Int) := by omega
                         clear zs1 zs2 zs3 zs4
                         go_region_law (first
                           | (refine wanted_wp rfl (wp_append_su (.tmp 113) (.tmp 116) rfl wk.heap.size (.slice (some ⟨w9i.heap.size, 0, none⟩) 1 1) [(0 : Int)] ((pp.map (·.2)).drop i) none (l - i) (gd - i) ?jjv ?jjx ?jjo ?jjs ?jjn ?jjm ?jjb ?_)
                              case jjv => kernel_rfl
                              case jjx => kernel_rfl
                              case jjo => exact (OwnU.lit HBi.out.size).drew'
                              case jjs => exact ts_.out.keep (((Below.refl _ _).alloc (Nat.le_refl _) _).drew)
                              case jjn => omega
                              case jjm => simp
                              case jjb => exact Nat.le_trans HBi.out.size (show Below w9i.heap.size w9i _ from ((Below.refl _ _).alloc (Nat.le_refl _) _).drew).size
                              intro v8 w8s h8 g8
                              obtain ⟨a8, m8, c8, rfl, E8, S8, P8, V8, B8, Z8⟩ := ins1_u HBi.out ps_.out HOi.out h8 g8
                              have H8e := Lib.hid E8
                              have H8s := Lib.hid S8
                              have H8p := Lib.hid P8
                              have H8v := Lib.hid V8
                              have H8b := Lib.hid B8
                              clear h8 g8 E8 S8 P8 V8 B8 Z8)
                           | (refine wanted_wp rfl (wp_append_su (.tmp 112) (.tmp 117) rfl wk.heap.size (.slice none i gd) ((pp.map (·.2)).take i) ((0 : Int) :: (pp.map (·.2)).drop i) a8 m8 c8 ?jjv ?jjx ?jjo ?jjs ?jjn ?jjm ?jjb ?_)
                              case jjv => kernel_rfl
                              case jjx => kernel_rfl
                              case jjo => exact H8p.out
                              case jjs => exact H8s.out
                              case jjn => rw [H8e.out]; have := HL.out; simp; omega
                              case jjm => have := HL.out; simp; omega
                              case jjb => exact H8b.out.size
                              intro v9 w9s h9 g9
                              obtain ⟨a9s, m9, c9s, rfl, E9, S9, V9, B9, Z9⟩ := ins2_u H8b.out H8p.out H8v.out h9 g9
                              have e9 : m9 = l + 1 := by rw [E9]; have := HL.out; simp; omega
                              have HOs := Lib.hid S9
                              have HVs := Lib.hid V9
                              have HBs := Lib.hid B9
                              clear h9 g9 E9 S9 V9 B9 Z9 H8e H8s H8p H8v H8b
                              subst e9))
                         go_wp2_with fail
                         go_roundw
                         case rel => exact ⟨i + 1, by omega, by go_num, insAt i ((i : Int) + 1, 0) pp, HI.out.ins (by omega) hit (by rw [HL.out]; exact hln) HNE.out, Lib.hid (by rw [insAt_map]; exact HVs.out), Lib.hid (by rw [insAt_map]; exact HOs.out), HBs⟩
                         case measure => simp [intOf] <;> omega
                       · have ps_ := Lib.hid zs4
                         have ts_ := Lib.hid zs3
                         have csI : (i : Int) ≤ (gd : Int) := by omega
                         clear zs4 zs3
                         go_region_law (first
                           | (refine wanted_wp rfl (wp_append_su (.tmp 113) (.tmp 116) rfl wk.heap.size (.slice (some ⟨w9i.heap.size, 0, none⟩) 1 1) [(0 : Int)] ((pp.map (·.2)).drop i) AS (l - i) (gd - i) ?jjv ?jjx ?jjo ?jjs ?jjn ?jjm ?jjb ?_)
                              case jjv => kernel_rfl
                              case jjx => kernel_rfl
                              case jjo => exact (OwnU.lit HBi.out.size).drew'
                              case jjs => exact ts_.out.keep (((Below.refl _ _).alloc (Nat.le_refl _) _).drew)
                              case jjn => omega
                              case jjm => simp
                              case jjb => exact Nat.le_trans HBi.out.size (show Below w9i.heap.size w9i _ from ((Below.refl _ _).alloc (Nat.le_refl _) _).drew).size
                              intro v8 w8s h8 g8
                              obtain ⟨a8, m8, c8, rfl, E8, S8, P8, V8, B8, Z8⟩ := ins1_u HBi.out ps_.out HOi.out h8 g8
                              have H8e := Lib.hid E8
                              have H8s := Lib.hid S8
                              have H8p := Lib.hid P8
                              have H8v := Lib.hid V8
                              have H8b := Lib.hid B8
                              clear h8 g8 E8 S8 P8 V8 B8 Z8)
                           | (refine wanted_wp rfl (wp_append_su (.tmp 112) (.tmp 117) rfl wk.heap.size (.slice (some ⟨gS, 0, none⟩) i gd) ((pp.map (·.2)).take i) ((0 : Int) :: (pp.map (·.2)).drop i) a8 m8 c8 ?jjv ?jjx ?jjo ?jjs ?jjn ?jjm ?jjb ?_)
                              case jjv => kernel_rfl
                              case jjx => kernel_rfl
                              case jjo => exact H8p.out
                              case jjs => exact H8s.out
                              case jjn => rw [H8e.out]; have := HL.out; simp; omega
                              case jjm => have := HL.out; simp; omega
                              case jjb => exact H8b.out.size
                              intro v9 w9s h9 g9
                              obtain ⟨a9s, m9, c9s, rfl, E9, S9, V9, B9, Z9⟩ := ins2_u H8b.out H8p.out H8v.out h9 g9
                              have e9 : m9 = l + 1 := by rw [E9]; have := HL.out; simp; omega
                              have HOs := Lib.hid S9
                              have HVs := Lib.hid V9
                              have HBs := Lib.hid B9
                              clear h9 g9 E9 S9 V9 B9 Z9 H8e H8s H8p H8v H8b
                              subst e9))
                         go_wp2_with fail
                         go_roundw
                         case rel => exact ⟨i + 1, by omega, by go_num, insAt i ((i : Int) + 1, 0) pp, HI.out.ins (by omega) hit (by rw [HL.out]; exact hln) HNE.out, Lib.hid (by rw [insAt_map]; exact HVs.out), Lib.hid (by rw [insAt_map]; exact HOs.out), HBs⟩
                         case measure => simp [intOf] <;> omega
                     case pos =>
                       as_aux_lemma =>
                       have e1 : decide ((i : Int) < (l : Int)) = true := by simp; omega
                       have e1n : decide (i < l) = true := by simp; omega
                       have e1i : (i : Int) < (l : Int) := by omega
                       have hip : i < pp.length := by rw [HL.out]; exact hat
                       have HNX := Lib.hid (HI.out.next hip)
                       obtain ⟨y, hy⟩ : ∃ y, pp[i].1 = y := ⟨_, rfl⟩
                       obtain ⟨sg_, fg, hga, hsg, hcg, -⟩ := HSI.out.at i hat
                       rw [getD_at (by simpa using hip), List.getElem_map, hy] at hcg
                       obtain ⟨rfl, rfl⟩ : gI = sg_ ∧ fg = 0 := by injection hga with h; injection h with h1 h2; exact ⟨h1, h2.symm⟩
                       clear hga
                       rw [Nat.zero_add] at hcg
                       have e2 : decide (y < (i : Int) + 1) = false := by have := HNX.out; simp; omega
                       by_cases he : y = (i : Int) + 1
                       case pos =>
                         subst he
                         have HY := Lib.hid hy
                         clear hy e2 zi4 zi3 zi2
                         have e2 : decide ((i : Int) + 1 < (i : Int) + 1) = false := by simp
                         go_wp2_with fail
                         go_roundw
                         case rel => exact ⟨i + 1, by omega, by go_num, pp, HI.out.skip hip HY.out, F_i, F_s, HK⟩
                         case measure => simp [intOf] <;> omega
                       case neg =>
                         have e3 : (y == (i : Int) + 1) = false := by simpa using he
                         have e3i : decide (y = (i : Int) + 1) = false := by simpa using he
                         have HNE := Lib.hid (show ∀ h : i < pp.length, pp[i].1 ≠ (i : Int) + 1 by intro h; rw [hy]; exact he)
                         clear hy
                         go_wp2_with fail
                         clear hcg e1 e1n e2 e3 e3i
                         have pi := Lib.hid zi4
                         have ti := Lib.hid zi3
                         have ciI : (i : Int) ≤ (gc : Int) := by omega
                         clear zi4 zi3
                         go_region_law (first
                           | (refine wanted_wp rfl (wp_append_si (.tmp 104) (.tmp 107) rfl wk.heap.size (.slice (some ⟨wr.heap.size, 0, none⟩) 1 1) [((i : Int) + 1)] ((pp.map (·.1)).drop i) AI (l - i) (gc - i) ?jjv ?jjx ?jjo ?jjs ?jjn ?jjm ?jjb ?_)
                              case jjv => kernel_rfl
                              case jjx => kernel_rfl
                              case jjo => exact (OwnI.lit HK.out.size).drew
                              case jjs => exact ti.out.keep (((Below.refl _ _).alloc (Nat.le_refl _) _).drew)
                              case jjn => omega
                              case jjm => simp
                              case jjb => exact Nat.le_trans HK.out.size (show Below wr.heap.size wr _ from ((Below.refl _ _).alloc (Nat.le_refl _) _).drew).size
                              intro v8 w8i h8 g8
                              obtain ⟨a8, m8, c8, rfl, E8, S8, P8, V8, B8, Z8⟩ := ins1_i HK.out pi.out F_s.out h8 g8
                              have H8e := Lib.hid E8
                              have H8s := Lib.hid S8
                              have H8p := Lib.hid P8
                              have H8v := Lib.hid V8
                              have H8b := Lib.hid B8
                              clear h8 g8 E8 S8 P8 V8 B8 Z8)
                           | (refine wanted_wp rfl (wp_append_si (.tmp 102) (.tmp 108) rfl wk.heap.size (.slice (some ⟨gI, 0, none⟩) i gc) ((pp.map (·.1)).take i) (((i : Int) + 1) :: (pp.map (·.1)).drop i) a8 m8 c8 ?jjv ?jjx ?jjo ?jjs ?jjn ?jjm ?jjb ?_)
                              case jjv => kernel_rfl
                              case jjx => kernel_rfl
                              case jjo => exact H8p.out
                              case jjs => exact H8s.out
                              case jjn => rw [H8e.out]; have := HL.out; simp; omega
                              case jjm => have := HL.out; simp; omega
                              case jjb => exact H8b.out.size
                              intro v9 w9i h9 g9
                              obtain ⟨a9i, m9, c9i, rfl, E9, S9, V9, B9, Z9⟩ := ins2_i H8b.out H8p.out H8v.out h9 g9
                              have e9 : m9 = l + 1 := by rw [E9]; have := HL.out; simp; omega
                              have HOi := Lib.hid S9
                              have HVi := Lib.hid V9
                              have HBi := Lib.hid B9
                              clear h9 g9 E9 S9 V9 B9 Z9 H8e H8s H8p H8v H8b
                              subst e9))
                         go_wp2_with fail
                         clear ciI
                         rcases HVi.out.cut hil with ⟨rfl, zs1, zs2, zs3, zs4⟩ | ⟨gS, AS, rfl, zs1, zs2, zs3, zs4⟩
                         · exact absurd hat (by omega)
                         · have ps_ := Lib.hid zs4
                           have ts_ := Lib.hid zs3
                           have csI : (i : Int) ≤ (gd : Int) := by omega
                           clear zs4 zs3
                           go_region_law (first
                             | (refine wanted_wp rfl (wp_append_su (.tmp 113) (.tmp 116) rfl wk.heap.size (.slice (some ⟨w9i.heap.size, 0, none⟩) 1 1) [(0 : Int)] ((pp.map (·.2)).drop i) AS (l - i) (gd - i) ?jjv ?jjx ?jjo ?jjs ?jjn ?jjm ?jjb ?_)
                                case jjv => kernel_rfl
                                case jjx => kernel_rfl
                                case jjo => exact (OwnU.lit HBi.out.size).drew'
                                case jjs => exact ts_.out.keep (((Below.refl _ _).alloc (Nat.le_refl _) _).drew)
                                case jjn => omega
                                case jjm => simp
                                case jjb => exact Nat.le_trans HBi.out.size (show Below w9i.heap.size w9i _ from ((Below.refl _ _).alloc (Nat.le_refl _) _).drew).size
                                intro v8 w8s h8 g8
                                obtain ⟨a8, m8, c8, rfl, E8, S8, P8, V8, B8, Z8⟩ := ins1_u HBi.out ps_.out HOi.out h8 g8
                                have H8e := Lib.hid E8
                                have H8s := Lib.hid S8
                                have H8p := Lib.hid P8
                                have H8v := Lib.hid V8
                                have H8b := Lib.hid B8
                                clear h8 g8 E8 S8 P8 V8 B8 Z8)
                             | (refine wanted_wp rfl (wp_append_su (.tmp 112) (.tmp 117) rfl wk.heap.size (.slice (some ⟨gS, 0, none⟩) i gd) ((pp.map (·.2)).take i) ((0 : Int) :: (pp.map (·.2)).drop i) a8 m8 c8 ?jjv ?jjx ?jjo ?jjs ?jjn ?jjm ?jjb ?_)
                                case jjv => kernel_rfl
                                case jjx => kernel_rfl
                                case jjo => exact H8p.out
                                case jjs => exact H8s.out
                                case jjn => rw [H8e.out]; have := HL.out; simp; omega
                                case jjm => have := HL.out; simp; omega
                                case jjb => exact H8b.out.size
                                intro v9 w9s h9 g9
                                obtain ⟨a9s, m9, c9s, rfl, E9, S9, V9, B9, Z9⟩ := ins2_u H8b.out H8p.out H8v.out h9 g9
                                have e9 : m9 = l + 1 := by rw [E9]; have := HL.out; simp; omega
                                have HOs := Lib.hid S9
                                have HVs := Lib.hid V9
                                have HBs := Lib.hid B9
                                clear h9 g9 E9 S9 V9 B9 Z9 H8e H8s H8p H8v H8b
                                subst e9))
                           go_wp2_with fail
                           go_roundw
                           case rel => exact ⟨i + 1, by omega, by go_num, insAt i ((i : Int) + 1, 0) pp, HI.out.ins (by omega) hit (by rw [HL.out]; exact hln) HNE.out, Lib.hid (by rw [insAt_map]; exact HVs.out), Lib.hid (by rw [insAt_map]; exact HOs.out), HBs⟩
                           case measure => simp [intOf] <;> omega
        case rest =>
          obtain ⟨i, pp, l, ga, gc, gb, gd, rfl, rfl, hi, HL, hgo, HI, HSI, HSV, HKc⟩ := hcut
          obtain ⟨wo, rfl⟩ : ∃ wo : World, wo = wc := ⟨_, rfl⟩
          clear HK O3 O4 HST
          have HK := HKc
          clear HKc
          have hln : l + 1 = n := by
            have := HI.out.done hntn (by rw [HL.out]; exact if h : i < tn then .inr (hgo h) else .inl (by omega))
            rw [HL.out] at this
            exact this
          obtain ⟨r, hr1, hr2, hr3, hr4, hr5, hr6⟩ := hides HVAL.out HI.out (by omega) tQ (L := n) (by omega) (by rw [HL.out]; exact hln) hs0 hsQ
          have HIN := Lib.hid hr1
          have HRL := Lib.hid hr2
          have HR0 := Lib.hid hr3
          have HRU := Lib.hid (show ∀ x, x ∈ r → U64 x from fun x hx => by have := hr5 x hx; constructor <;> omega)
          have HSS := Lib.hid (show ∀ j : Nat, j < tn → bitS m j = true → (sharesS Q r tn).getD j 0 = ss.getD j 0 from fun j hj hb => by
            rw [← hr6 j hj hb HSR.out (by rw [HQL.out]; exact hj)]
            simp [sharesS, List.getD_eq_getElem?_getD, hj])
          have HSP := Lib.hid (show splitS P Q G (tn : Int) r = (0, pledgesS P G r, sharesS Q r tn) by
            have e1 : (belowS Q r && (decide ((r.length : Int) ≤ (tn : Int)) && numS Q (tn : Int))) = true := by
              rw [hr4, HNT.out, hr2]
              simp; omega
            rw [splitS, if_pos HVAL.out.1, if_pos e1, show (tn : Int).toNat = tn by omega])
          have HIB := Lib.hid (show ∀ x, x ∈ 0 :: pp.map (·.1) → I64 x from fun x hx => by
            rcases List.mem_cons.1 hx with rfl | hx
            · constructor <;> omega
            · obtain ⟨p, hp, rfl⟩ := List.mem_map.1 hx
              have := HI.out.rng p hp
              constructor <;> omega)
          have HUB := Lib.hid (show ∀ x, x ∈ sec :: pp.map (·.2) → U64 x from fun x hx => by
            rcases List.mem_cons.1 hx with rfl | hx
            · exact us
            · obtain ⟨p, hp, rfl⟩ := List.mem_map.1 hx
              have := HI.out.rng p hp
              constructor <;> omega)
          have HLI := Lib.hid (show (pp.map (·.1)).length + 1 = n by rw [List.length_map, HL.out]; exact hln)
          have HLV := Lib.hid (show (pp.map (·.2)).length + 1 = n by rw [List.length_map, HL.out]; exact hln)
          clear hr1 hr2 hr3 hr4 hr5 hr6
          obtain ⟨x0a, x0b, x0c, -⟩ := id (F_g.out.keep HK.out)
          obtain ⟨x3a, x3b, x3c, -⟩ := id ((F_g.out.keep HK.out).alloc (.cells #[.int .i64 0] 3))
          obtain ⟨x4a, x4b, x4c, -⟩ := id ((F_g.out.keep HK.out).alloc (.cells #[.int .u64 sec] 22))
          obtain ⟨x5a, x5b, x5c, -⟩ := id (((F_g.out.keep HK.out).alloc (.cells #[.int .i64 0] 3)).alloc (.cells #[.int .u64 sec] 22))
          obtain ⟨x6a, x6b, x6c, -⟩ := id (((F_g.out.keep HK.out).alloc (.cells #[.int .u64 sec] 22)).alloc (.cells #[.int .i64 0] 3))
          go_wp2_with fail
          go_cut [18, 19] from 61 (fun c18 c19 wx => ∃ (o1 : Option Addr) (p1 : Nat), c18 = .slice o1 n p1 ∧ c19 = .int .i64 0 ∧ Hid (ShI .u64 wx o1 n r) ∧ Hid (Below wk.heap.size wk wx))
          case first =>
            as_aux_lemma =>
            go_region_law (first
              | (refine wanted_wp rfl (wp_append_si (.tmp 121) (.tmp 122) rfl wo.heap.size (.slice (some ⟨wo.heap.size, 0, none⟩) 1 1) [(0 : Int)] (pp.map (·.1)) ga l gc ?jjv ?jjx ?jjo ?jjs ?jjn ?jjm ?jjb ?_)
                 case jjv => kernel_rfl
                 case jjx => kernel_rfl
                 case jjo => (first | exact (OwnI.lat (W := wo) rfl (Nat.le_refl _)).dr | exact ((OwnI.lat (W := wo) rfl (Nat.le_refl _)).al).dr)
                 case jjs => refine HSI.out.keep ?_; (first | exact (below_al (Below.refl _ _)).drew | exact (below_al (below_al (Below.refl _ _))).drew)
                 case jjn => omega
                 case jjm => simp
                 case jjb => refine Below.size (B := wo.heap.size) ?_; (first | exact (below_al (Below.refl _ _)).drew | exact (below_al (below_al (Below.refl _ _))).drew)
                 intro v8 w8i h8 g8
                 obtain ⟨a8i, mi, c8i, rfl, ei, hi8, hb8⟩ := ahead_i HLI.out (by (first | exact (below_al (Below.refl _ _)).drew | exact (below_al (below_al (Below.refl _ _))).drew)) (by first | exact Nat.le_refl _ | exact Nat.le_succ _) h8 g8
                 have HIc := Lib.hid hi8
                 have HWc := Lib.hid hb8
                 (first | have HUc := Lib.hid (other_i (by (first | exact (OwnI.lat (W := wo) rfl (Nat.le_refl _)).dr | exact ((OwnI.lat (W := wo) rfl (Nat.le_refl _)).al).dr)) (show OwnU _ wo.heap.size (.slice (some ⟨wo.heap.size + 1, 0, none⟩) 1 1) [sec] by exact (OwnU.lat (W := wo.alloc _) (by simp) (Nat.le_succ _)).dr) g8) | skip)
                 obtain ⟨x1a, x1b, x1c, -⟩ := id (F_g.out.keep (HK.out.trans (hb8.mono HK.out.size)))
                 obtain ⟨x7a, x7b, x7c, -⟩ := id ((F_g.out.keep (HK.out.trans (hb8.mono HK.out.size))).alloc (.cells #[.int .u64 sec] 22))
                 clear h8 g8 hi8 hb8
                 subst ei)
              | (refine wanted_wp rfl (wp_append_si (.tmp 121) (.tmp 122) rfl wo.heap.size (.slice (some ⟨wo.heap.size + 1, 0, none⟩) 1 1) [(0 : Int)] (pp.map (·.1)) ga l gc ?jjv ?jjx ?jjo ?jjs ?jjn ?jjm ?jjb ?_)
                 case jjv => kernel_rfl
                 case jjx => kernel_rfl
                 case jjo => (exact (OwnI.lat (W := wo.alloc _) (by simp) (Nat.le_succ _)).dr)
                 case jjs => refine HSI.out.keep ?_; (first | exact (below_al (Below.refl _ _)).drew | exact (below_al (below_al (Below.refl _ _))).drew)
                 case jjn => omega
                 case jjm => simp
                 case jjb => refine Below.size (B := wo.heap.size) ?_; (first | exact (below_al (Below.refl _ _)).drew | exact (below_al (below_al (Below.refl _ _))).drew)
                 intro v8 w8i h8 g8
                 obtain ⟨a8i, mi, c8i, rfl, ei, hi8, hb8⟩ := ahead_i HLI.out (by (first | exact (below_al (Below.refl _ _)).drew | exact (below_al (below_al (Below.refl _ _))).drew)) (by first | exact Nat.le_refl _ | exact Nat.le_succ _) h8 g8
                 have HIc := Lib.hid hi8
                 have HWc := Lib.hid hb8
                 (first | have HUc := Lib.hid (other_i (by (exact (OwnI.lat (W := wo.alloc _) (by simp) (Nat.le_succ _)).dr)) (show OwnU _ wo.heap.size (.slice (some ⟨wo.heap.size, 0, none⟩) 1 1) [sec] by exact ((OwnU.lat (W := wo) rfl (Nat.le_refl _)).al).dr) g8) | skip)
                 obtain ⟨x1a, x1b, x1c, -⟩ := id (F_g.out.keep (HK.out.trans (hb8.mono HK.out.size)))
                 obtain ⟨x7a, x7b, x7c, -⟩ := id ((F_g.out.keep (HK.out.trans (hb8.mono HK.out.size))).alloc (.cells #[.int .u64 sec] 22))
                 clear h8 g8 hi8 hb8
                 subst ei)
              | (refine wanted_wp rfl (wp_append_su (.tmp 125) (.tmp 126) rfl wo.heap.size (.slice (some ⟨wo.heap.size, 0, none⟩) 1 1) [sec] (pp.map (·.2)) gb l gd ?jjv ?jjx ?jjo ?jjs ?jjn ?jjm ?jjb ?_)
                 case jjv => kernel_rfl
                 case jjx => kernel_rfl
                 case jjo => (first | exact HUc.out | exact OwnU.lat (W := w8i) rfl HWc.out.size)
                 case jjs => refine HSV.out.keep ?_; (first | exact HWc.out | exact below_al HWc.out)
                 case jjn => omega
                 case jjm => simp
                 case jjb => refine Below.size (B := wo.heap.size) ?_; (first | exact HWc.out | exact below_al HWc.out)
                 intro v9 w9u h9 g9
                 obtain ⟨a9u, mu, c9u, rfl, eu, hu9, hb9⟩ := ahead_u HLV.out (by (first | exact HWc.out | exact below_al HWc.out)) (by first | exact Nat.le_refl _ | exact Nat.le_succ _ | exact HWc.out.size) h9 g9
                 have HIs := Lib.hid (other_u (by (first | exact HUc.out | exact OwnU.lat (W := w8i) rfl HWc.out.size)) (show OwnI _ wo.heap.size (.slice a8i n c8i) (0 :: pp.map (·.1)) by first | exact HIc.out | exact HIc.out.al) g9).sh
                 have HUs := Lib.hid hu9.sh
                 have HWd := Lib.hid (HK.out.trans (hb9.mono HK.out.size))
                 obtain ⟨x2a, x2b, x2c, -⟩ := id (F_g.out.keep HWd.out)
                 clear h9 g9 hu9 hb9
                 subst eu)
              | (refine wanted_wp rfl (wp_append_su (.tmp 125) (.tmp 126) rfl wo.heap.size (.slice (some ⟨wo.heap.size + 1, 0, none⟩) 1 1) [sec] (pp.map (·.2)) gb l gd ?jjv ?jjx ?jjo ?jjs ?jjn ?jjm ?jjb ?_)
                 case jjv => kernel_rfl
                 case jjx => kernel_rfl
                 case jjo => (first | exact HUc.out | exact OwnU.lat (W := w8i) rfl HWc.out.size)
                 case jjs => refine HSV.out.keep ?_; (first | exact HWc.out | exact below_al HWc.out)
                 case jjn => omega
                 case jjm => simp
                 case jjb => refine Below.size (B := wo.heap.size) ?_; (first | exact HWc.out | exact below_al HWc.out)
                 intro v9 w9u h9 g9
                 obtain ⟨a9u, mu, c9u, rfl, eu, hu9, hb9⟩ := ahead_u HLV.out (by (first | exact HWc.out | exact below_al HWc.out)) (by first | exact Nat.le_refl _ | exact Nat.le_succ _ | exact HWc.out.size) h9 g9
                 have HIs := Lib.hid (other_u (by (first | exact HUc.out | exact OwnU.lat (W := w8i) rfl HWc.out.size)) (show OwnI _ wo.heap.size (.slice a8i n c8i) (0 :: pp.map (·.1)) by first | exact HIc.out | exact HIc.out.al) g9).sh
                 have HUs := Lib.hid hu9.sh
                 have HWd := Lib.hid (HK.out.trans (hb9.mono HK.out.size))
                 obtain ⟨x2a, x2b, x2c, -⟩ := id (F_g.out.keep HWd.out)
                 clear h9 g9 hu9 hb9
                 subst eu)
              | (go_simp
                 go_at_call 35
                 refine (sinterp_any _ hP hQ hG HIs.out (by omega) HIB.out HUs.out (by omega) HUB.out HIN.out).mono ?_
                 rintro e w7 ⟨v7, rfl, ho7, hb7⟩
                 obtain ⟨o1, p1, rfl, hs7⟩ := ho7.shI
                 rw [HRL.out] at hs7 ⊢
                 have F_r := Lib.hid hs7
                 have HBc := Lib.hid (HWd.out.trans (hb7.mono HWd.out.size))
                 clear ho7 hs7 hb7)
              | (refine wanted_wp rfl (wp_append_su (.tmp 125) (.tmp 126) rfl wo.heap.size (.slice (some ⟨w8i.heap.size, 0, none⟩) 1 1) [sec] (pp.map (·.2)) gb l gd ?jjv ?jjx ?jjo ?jjs ?jjn ?jjm ?jjb ?_)
                 case jjv => kernel_rfl
                 case jjx => kernel_rfl
                 case jjo => (first | exact HUc.out | exact OwnU.lat (W := w8i) rfl HWc.out.size)
                 case jjs => refine HSV.out.keep ?_; (first | exact HWc.out | exact below_al HWc.out)
                 case jjn => omega
                 case jjm => simp
                 case jjb => refine Below.size (B := wo.heap.size) ?_; (first | exact HWc.out | exact below_al HWc.out)
                 intro v9 w9u h9 g9
                 obtain ⟨a9u, mu, c9u, rfl, eu, hu9, hb9⟩ := ahead_u HLV.out (by (first | exact HWc.out | exact below_al HWc.out)) (by first | exact Nat.le_refl _ | exact Nat.le_succ _ | exact HWc.out.size) h9 g9
                 have HIs := Lib.hid (other_u (by (first | exact HUc.out | exact OwnU.lat (W := w8i) rfl HWc.out.size)) (show OwnI _ wo.heap.size (.slice a8i n c8i) (0 :: pp.map (·.1)) by first | exact HIc.out | exact HIc.out.al) g9).sh
                 have HUs := Lib.hid hu9.sh
                 have HWd := Lib.hid (HK.out.trans (hb9.mono HK.out.size))
                 obtain ⟨x2a, x2b, x2c, -⟩ := id (F_g.out.keep HWd.out)
                 clear h9 g9 hu9 hb9
                 subst eu))
            all_goals (go_wp2_with fail; go_meet)
            all_goals exact ⟨_, _, rfl, rfl, F_r, HBc⟩
          case rest =>
            as_aux_lemma =>
            clear x0a x0b x0c x3a x3b x3c x4a x4b x4c x5a x5b x5c x6a x6b x6c
            obtain ⟨o1, p1, rfl, rfl, F_r, HBc⟩ := hcut
            replace F_g := Lib.hid (F_g.out.keep HBc.out)
            replace F_d := Lib.hid (F_d.out.keep HBc.out)
            replace F_p := Lib.hid (F_p.out.keep HBc.out)
            replace F_q := Lib.hid (F_q.out.keep HBc.out)
            replace HBW := Lib.hid (HBW.out.trans (HBc.out.mono HBW.out.size))
            obtain ⟨s1, f1, hs1, hl1, hc1, -⟩ := F_r.out.at 0 (by omega)
            rw [HR0.out, Nat.add_zero] at hc1
            have h0n : (0 : Int) < (n : Int) := by omega
            subst hs1
            obtain ⟨x0a, x0b, x0c, -⟩ := id F_g.out
            obtain ⟨x1a, x1b, x1c, x1d, -⟩ := id F_d.out
            go_wp2_with fail
            clear h0n x0a x0b x0c x1a x1b x1c x1d hc1 hl1
            refine (sSplit_any _ hP hQ hG (by omega) (by omega) F_r.out (by omega) HRU.out HSP.out).mono ?_
            rintro e w5 ⟨v5, v6, rfl, ho5, ho6, hb5⟩
            obtain ⟨y1, y2, rfl, hs5⟩ := ho5.shI
            obtain ⟨y3, y4, rfl, hs6⟩ := ho6.shI
            have HSN := Lib.hid (show (sharesS Q r tn).length = tn from shares_len _ _ _)
            obtain ⟨sl, hsl5⟩ : ∃ sl, sharesS Q r tn = sl := ⟨_, rfl⟩
            rw [hsl5] at hs6 HSN ⊢
            have HSE := Lib.hid hsl5
            rw [HSN.out] at hs6 ⊢
            have F_x := Lib.hid hs6
            have F_d5 := Lib.hid (F_d.out.keep hb5)
            have F_q5 := Lib.hid (F_q.out.keep hb5)
            have HB5 := Lib.hid (HBW.out.trans (hb5.mono HBW.out.size))
            clear ho5 ho6 hs5 hs6 hb5 hsl5 F_d F_q HBW F_g F_p F_r HBc
            obtain ⟨np, hnp⟩ : ∃ np, (pledgesS P G r).length = np := ⟨_, rfl⟩
            rw [hnp]
            clear hnp
            have F_d := Lib.hid (F_d5.out.alloc (.cells #[.slice y1 np y2, .slice y3 tn y4] 27))
            have F_q := Lib.hid (F_q5.out.alloc (.cells #[.slice y1 np y2, .slice y3 tn y4] 27))
            have F_s := Lib.hid (F_x.out.alloc (.cells #[.slice y1 np y2, .slice y3 tn y4] 27))
            have F_y := Lib.hid (DealBox.at w5 (.slice y1 np y2) (.slice y3 tn y4) 27 w5.heap.size rfl)
            have HBW := Lib.hid (HB5.out.alloc HB5.out.size (.cells #[.slice y1 np y2, .slice y3 tn y4] 27))
            clear F_d5 F_q5 F_x HB5
            obtain ⟨x0a, x0b, x0c, x0d, -⟩ := id F_y.out
            go_wp2_with fail
            clear x0a x0b x0c x0d
            go_loopw [22] (fun c22 wr => ∃ k : Nat, k ≤ tn ∧ c22 = .int .i64 k ∧ Hid (DealBox wr w5.heap.size (.slice y1 np y2) (.slice y3 tn y4)) ∧ Hid (DealBox wr Bd (.slice b1 n e1) (.slice b2 tn e2)) ∧ Hid (ShI .u64 wr y3 tn sl) ∧ Hid (ShI .u64 wr b2 tn ss) ∧ Hid (Below w.heap.size w wr)) (fun c22 _ => tn - (intOf c22).toNat)
            case atStart => exact ⟨0, Nat.zero_le _, rfl, F_y.out, F_d.out, F_s.out, F_q.out, HBW.out⟩
            case round =>
              clear F_y F_d F_s F_q HBW
              obtain ⟨k, hk, rfl, F_y, F_d, F_s, F_q, HBW⟩ := hrel
              have hk0 : (0 : Int) ≤ (k : Int) := by omega
              have hwk : IntKind.i64.wrap ((k : Int) + 1) = (k : Int) + 1 := IntWalk.i64_in _ (by omega)
              by_cases hlt : k < tn
              case neg =>
                have g1 : decide ((k : Int) < (tn : Int)) = false := by simp; omega
                go_wp2_with fail
                go_ret
                exact ⟨rfl, HBW.out⟩
              case pos =>
                have hk8 : (k : Int) ≤ 8 := by omega
                have hk1 : (k : Int) < (tn : Int) := by omega
                have g1 : decide ((k : Int) < (tn : Int)) = true := by simp; omega
                obtain ⟨sa, fa, hsa, hla, hca, -⟩ := F_s.out.at k hlt
                obtain ⟨sb, fb, hsb, hlb, hcb, -⟩ := F_q.out.at k hlt
                obtain ⟨x0a, x0b, x0c, x0d, -⟩ := id F_y.out
                obtain ⟨x1a, x1b, x1c, x1d, -⟩ := id F_d.out
                subst hsa hsb
                cases hb : bitS m k with
                | false =>
                  have hb' : (bits BinOp.and IntKind.u8 (m / 2 ^ k) 1 == 1) = false := hb
                  clear hb
                  go_wp2_with fail
                  go_region
                  go_wp2_with fail
                  go_roundw
                  case rel => exact ⟨k + 1, by omega, by go_num, F_y.out.drew, F_d.out.drew, F_s.out.drew, F_q.out.drew, HBW.out.drew⟩
                  case measure => simp [intOf] <;> omega
                | true =>
                  have he := HSS.out k hlt hb
                  rw [HSE.out] at he
                  rw [he] at hca
                  have hb' : (bits BinOp.and IntKind.u8 (m / 2 ^ k) 1 == 1) = true := hb
                  clear hb he
                  generalize ss.getD k 0 = zk at hca hcb
                  go_wp2_with fail
                  go_region
                  go_wp2_with fail
                  go_roundw
                  case rel => exact ⟨k + 1, by omega, by go_num, F_y.out.drew, F_d.out.drew, F_s.out.drew, F_q.out.drew, HBW.out.drew⟩
                  case measure => simp [intOf] <;> omega


set_option maxRecDepth 100000 in
theorem lifted (os : Os) (started : os.Started) (H : Type) (enc : TypeId × Value → H) :
    ReturnsInHanded {} Try.checked os 9 .any (Rows.shamirHidesSpec.pre6 enc Try.prog Try.f9 Rows.shamirHidesRow.domain false) (Rows.shamirHidesSpec.post enc Try.prog Try.f9 false true false false) := by
  refine returnsInHanded_of_change (C := Try.checked) own started (by kernel_rfl) Try.func9
    (ChangeSpec.witness6 (enc := enc) (C := Try.checked) false ⟨#[], #[.agg #[.int .u64 0, .int .u64 0, .int .u64 0], .slice none 0 0, .int .i64 0, .int .u8 0, .int .u64 0], []⟩ 8 (by kernel_rfl) (by kernel_rfl) (by kernel_rfl) (by kernel_rfl)) ?_
  intro W base args ds gs before hval0 hW _ _
  have hval : ∀ (j : Nat) t v, Try.f9.params[j]? = some t → args[j]? = some v → Value.okWide Try.prog W .any base t v := hval0
  have hW' := hW
  obtain ⟨p, q, hA0, hV, rfl, hfz, hnd⟩ := hW
  have hA : DataW.TrodAll enc Try.prog W 0 (fun _ => true) true Try.f9.params.toList args.toList ds p := hA0
  rw [Try.params9] at hA hval
  have hK := hA
  obtain ⟨v0, vs0, d0, ds0, p0, q0, hargs, rfl, rfl, h0, r0⟩ := trodAll_cons hA
  obtain ⟨v1, vs1, d1, ds1, p1, q1, rfl, rfl, rfl, h1, r1⟩ := trodAll_cons r0
  obtain ⟨v2, vs2, d2, ds2, p2, q2, rfl, rfl, rfl, h2, r2⟩ := trodAll_cons r1
  obtain ⟨v3, vs3, d3, ds3, p3, q3, rfl, rfl, rfl, h3, r3⟩ := trodAll_cons r2
  obtain ⟨v4, vs4, d4, ds4, p4, q4, rfl, rfl, rfl, h4, r4⟩ := trodAll_cons r3
  obtain ⟨rfl, rfl, rfl⟩ := trodAll_nil r4
  obtain rfl : args = #[v0, v1, v2, v3, v4] := by cases args; simp_all
  obtain ⟨rfl, rfl⟩ := trodVars_none hV
  obtain ⟨P, Q, G, rfl, uP, uQ, uG⟩ := open_group (hval 0 24 v0 rfl rfl) h0
  obtain ⟨a, n, c, xs, rfl, hS, hx, hc, hd⟩ := open_u64s (hval 1 25 v1 rfl rfl) h1
  obtain ⟨t, rfl, tl, tu⟩ := open_i64 (hval 2 3 v2 rfl rfl) h2
  obtain ⟨m, rfl, m0, m8⟩ := open_u8 (hval 3 5 v3 rfl rfl) h3
  obtain ⟨sec, rfl, us⟩ := open_u64 (hval 4 22 v4 rfl rfl) h4
  clear hA0 hval0
  refine (walk P Q G a n c xs t m sec W uP uQ uG hS hx hc hd tl tu m0 m8 us).mono fun e W' ⟨he, bel⟩ => ?_
  subst he
  exact ⟨_, rfl, _, _, _, [], _, [], hW', trodAll_mk1 (shut_bool Try.underlying4 _), trodAll_stays laidOut (by kernel_rfl) hK bel, rfl, bel.frame _, fun h => by cases h⟩

theorem over : Rows.shamirHidesRow.holds Try.pinned (OpenSpec.ofChange Rows.shamirHidesSpec) :=
  OpenClaim.holds_of_wide 9 Try.f9 rfl rfl rfl rfl rfl rfl rfl ⟨rfl, rfl, rfl, rfl, rfl⟩ rfl rfl rfl rfl rfl (by kernel_rfl) Try.func9 (by kernel_rfl)
    (of_decide_eq_true (by kernel_rfl)) (by unfold Func.isWrapper; first | (rw [if_pos (by decide +kernel)]; kernel_rfl) | (rw [if_neg (by decide +kernel)]; exact ⟨rfl, rfl⟩))
    (fun os started H enc _ => lifted os started H enc)

theorem proved : Rows.ShamirHidesSaid := over
#print axioms proved
end Go.Proofs.Ytjfaaicbojnpaaa.lawHides
