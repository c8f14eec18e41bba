/- schnorr.Verify; the reference's Right, Verify. -/
import Derived.Test.YtanlnhjjdiaphaaDoorSigD
namespace Go.Proofs.YtanlnhjjdiaphaaDoor
open Go Go.RowKit Num Sha
set_option linter.unusedSimpArgs false
set_option linter.unusedVariables false

/-- A signature is accepted. -/
def vfP (P Q G y R S : Int) (T : List Int) : Prop := Mem P Q y ∧ Mem P Q R ∧ powm G S P = R * powm y (chV Q [y, R] T) P % P
theorem ShL.c {w : World} {b n c : Nat} {xs : List Int} (h : ShL w (some ⟨b, 0, none⟩) n c xs) (i : Nat) (hi : i < xs.length) : w.cell? ⟨b, i, none⟩ = some (.int .u64 (xs.getD i 0)) := by
  rcases h with ⟨h, _⟩ | ⟨s, h0, _, _, h3⟩
  · cases h
  · injection h0 with h0; injection h0 with h0; subst h0; exact h3 i hi

set_option maxRecDepth 100000 in
set_option maxHeartbeats 4000000 in
theorem sverify_any {P Q G y R S e' : Int} {v : Bool} {tx : Option Addr} {n cp : Nat} {T : List Int} (w : World) (hT : Txt w tx n T) (hP : 0 ≤ P) (hQ : 0 ≤ Q) (hG : 0 ≤ G) (uy : U64 y) (uR : U64 R) (S0 : 0 ≤ S) (hn : n ≤ 8100) (h : RetB (lgS (askS P Q G [S] [y, R]) n) (vfP P Q G y R S T) v e') :
    Calls Tryd.prog 12 #[.agg #[.int .u64 P, .int .u64 Q, .int .u64 G], .int .u64 y, .slice tx n cp, .agg #[.int .u64 R, .int .u64 S]] w fun e w' => e = .returned (.tuple #[.bool v, .int .i64 e']) ∧ Below w.heap.size w w' := by
  have HT := Lib.hid hT
  clear hT
  rcases h with ⟨h, hv, rfl⟩ | ⟨h, rfl, hc⟩
  · obtain ⟨h, hn8⟩ := lgS_zero h
    have hd : decide ((8000 : Int) < (n : Int)) = false := by simp; omega
    have hdn : decide (8000 < n) = false := by simp; omega
    obtain ⟨hH, he, hnn⟩ := askS_zero h
    have SQ := he S (by simp)
    have yP := hnn y (by simp)
    have RP := hnn R (by simp)
    have y0 := uy.1
    have R0 := uR.1
    have HR := Lib.hid h
    have HV := Lib.hid hv
    have UY := Lib.hid uy
    have UR := Lib.hid uR
    clear h hv he hnn uy uR
    obtain ⟨p5, p3, hQ', pq, g2, gP⟩ := id hH
    have hP1 : 1 ≤ P := by omega
    have hGM : G < 2147483648 := by omega
    have q3 : Q < 1073741824 := by omega
    have q2 : 2 ≤ Q := by omega
    have HH := Lib.hid hH
    clear hH pq
    obtain ⟨h_, hh⟩ : ∃ h_, chV Q [y, R] T = h_ := ⟨_, rfl⟩
    obtain ⟨h0, hQQ⟩ : 0 ≤ h_ ∧ h_ < Q := by rw [← hh]; exact chV_range (by omega) _ _
    have HCC := Lib.hid hh
    clear hh
    have HCH := Lib.hid (show RetS (lgS (askS P Q G [] [y, R]) n) (chV Q [y, R] T) h_ 0 from .inl ⟨lgS_ok (askS_ok HH.out (by simp) (by simp; omega)) hn8, HCC.out.symm, rfl⟩)
    have HHO := Lib.hid (show askS P Q G [h_, S] [y, R] = 0 from askS_ok HH.out (by simp; omega) (by simp; omega))
    have F_g := Lib.hid (show Boxed ((((w.alloc (.cells #[.int .u64 P, .int .u64 Q, .int .u64 G] 24)).alloc (.cells #[.int .u64 R, .int .u64 S] 27)).alloc (.cells #[.int .u64 S] 22)).alloc (.cells #[.int .u64 y, .int .u64 R] 22)) (w.heap.size) P Q G from (((Boxed.at _ P Q G _ (w.heap.size) (by simp)).alloc _).alloc _).alloc _)
    have F_s := Lib.hid (show Pair ((((w.alloc (.cells #[.int .u64 P, .int .u64 Q, .int .u64 G] 24)).alloc (.cells #[.int .u64 R, .int .u64 S] 27)).alloc (.cells #[.int .u64 S] 22)).alloc (.cells #[.int .u64 y, .int .u64 R] 22)) (w.heap.size + 1) R S from ((Pair.at _ R S _ (w.heap.size + 1) (by simp)).alloc _).alloc _)
    have F_es := Lib.hid (show ShL ((((w.alloc (.cells #[.int .u64 P, .int .u64 Q, .int .u64 G] 24)).alloc (.cells #[.int .u64 R, .int .u64 S] 27)).alloc (.cells #[.int .u64 S] 22)).alloc (.cells #[.int .u64 y, .int .u64 R] 22)) (some ⟨w.heap.size + 1 + 1, 0, none⟩) 1 1 [S] from (ShL.laid _ [S] _ _ (w.heap.size + 1 + 1) _ _ (by simp) rfl rfl).alloc _)
    have F_ns := Lib.hid (show ShL ((((w.alloc (.cells #[.int .u64 P, .int .u64 Q, .int .u64 G] 24)).alloc (.cells #[.int .u64 R, .int .u64 S] 27)).alloc (.cells #[.int .u64 S] 22)).alloc (.cells #[.int .u64 y, .int .u64 R] 22)) (some ⟨w.heap.size + 1 + 1 + 1, 0, none⟩) 2 2 [y, R] from ShL.laid _ [y, R] _ _ (w.heap.size + 1 + 1 + 1) _ _ (by simp) rfl rfl)
    have HBW := Lib.hid (show Below w.heap.size w ((((w.alloc (.cells #[.int .u64 P, .int .u64 Q, .int .u64 G] 24)).alloc (.cells #[.int .u64 R, .int .u64 S] 27)).alloc (.cells #[.int .u64 S] 22)).alloc (.cells #[.int .u64 y, .int .u64 R] 22)) from ((((Below.refl _ _).alloc (by simp <;> omega) _).alloc (by simp <;> omega) _).alloc (by simp <;> omega) _).alloc (by simp <;> omega) _)
    go_enter Tryd.func12, Tryd.ntmps12
    obtain ⟨x0a, x0b, x0c, -⟩ := id F_g.out
    obtain ⟨x1a, x1b, x1c, x1d, -⟩ := id F_s.out
    go_wp2_with fail
    clear x0a x0b x0c x1a x1b x1c x1d
    refine (scheck_any _ hP hQ hG F_es.out F_ns.out (by simp) (by simp) HR.out).mono ?_
    rintro e w1 ⟨rfl, hb1⟩
    replace F_g := Lib.hid (F_g.out.keep hb1)
    replace F_s := Lib.hid (F_s.out.keep hb1)
    replace F_es := Lib.hid (F_es.out.keep hb1)
    replace F_ns := Lib.hid (F_ns.out.keep hb1)
    replace HBW := Lib.hid (HBW.out.trans (hb1.mono HBW.out.size))
    clear hb1
    clear F_es
    clear F_ns
    obtain ⟨x0a, x0b, x0c, -⟩ := id F_g.out
    obtain ⟨x1a, x1b, x1c, x1d, -⟩ := id F_s.out
    go_wp2_with fail
    clear x0a x0b x0c x1a x1b x1c x1d
    refine (schallenge_any (v := h_) (c := 0) _ (HT.out.keep HBW.out) hP hQ hG UY.out UR.out hn HCH.out).mono ?_
    rintro e w2 ⟨rfl, hb2⟩
    replace F_g := Lib.hid (F_g.out.keep hb2)
    replace F_s := Lib.hid (F_s.out.keep hb2)
    replace HBW := Lib.hid (HBW.out.trans (hb2.mono HBW.out.size))
    clear hb2
    obtain ⟨x0a, x0b, x0c, -⟩ := id F_g.out
    obtain ⟨x1a, x1b, x1c, x1d, -⟩ := id F_s.out
    go_wp2_with fail
    clear x0a x0b x0c x1a x1b x1c x1d
    replace F_g := Lib.hid (F_g.out.alloc (.cells #[.int .u64 y, .int .u64 R] 22))
    replace F_s := Lib.hid (F_s.out.alloc (.cells #[.int .u64 y, .int .u64 R] 22))
    have F_ms := Lib.hid (ShL.laid w2 [y, R] _ 22 _ 2 2 rfl rfl rfl)
    replace HBW := Lib.hid (HBW.out.alloc HBW.out.size (.cells #[.int .u64 y, .int .u64 R] 22))
    replace F_m := F_ms
    clear F_ms
    generalize w2.heap.size = Bm at F_m ⊢
    go_loopw [46] (fun c46 wr => ∃ k : Nat, k ≤ 2 ∧ c46 = .int .i64 k ∧ (1 ≤ k → Mem P Q y) ∧ (2 ≤ k → Mem P Q R) ∧ Hid (Boxed wr w.heap.size P Q G) ∧ Hid (Pair wr (w.heap.size + 1) R S) ∧ Hid (ShL wr (some ⟨Bm, 0, none⟩) 2 2 [y, R]) ∧ Hid (Below w.heap.size w wr)) (fun c46 _ => 2 - (intOf c46).toNat)
    case atStart => exact ⟨0, by omega, rfl, fun h => absurd h (by omega), fun h => absurd h (by omega), F_g.out, F_s.out, F_m.out, HBW.out⟩
    case round =>
      clear F_g F_s F_m HBW
      obtain ⟨k, hk, rfl, hx0, hx1, F_g, F_s, F_m, HBW⟩ := hrel
      obtain rfl | rfl | rfl : k = 0 ∨ k = 1 ∨ k = 2 := by omega
      case inl =>
        clear hx0 hx1
        rw [show ((0 : Nat) : Int) = 0 from rfl]
        by_cases hM : Mem P Q y
        case neg =>
          have HM := Lib.hid hM
          have HZ := Lib.hid (show false = v by rw [Bool.eq_iff_iff, HV.out]; exact ⟨fun h => (by cases h), fun h => absurd h.1 HM.out⟩)
          clear hM
          obtain ⟨s0, s1, s2, -⟩ := id F_g.out
          have m0 := F_m.out.c 0 (by simp)
          have m1 := F_m.out.c 1 (by simp)
          go_wp2_with fail
          clear s0 s1 s2 m0 m1
          refine (member_ok P Q G y false _ HH.out y0 yP ⟨fun h => (by cases h), fun h => absurd h HM.out⟩).mono ?_
          rintro e w3 ⟨rfl, hb3⟩
          replace F_g := Lib.hid (F_g.out.keep hb3)
          replace F_s := Lib.hid (F_s.out.keep hb3)
          replace F_m := Lib.hid (F_m.out.keep hb3)
          replace HBW := Lib.hid (HBW.out.trans (hb3.mono HBW.out.size))
          clear hb3
          go_wp2_with fail
          go_ret2
          exact ⟨ret_bi HZ.out rfl, HBW.out⟩
        case pos =>
          have HM := Lib.hid hM
          clear hM
          obtain ⟨s0, s1, s2, -⟩ := id F_g.out
          have m0 := F_m.out.c 0 (by simp)
          have m1 := F_m.out.c 1 (by simp)
          go_wp2_with fail
          clear s0 s1 s2 m0 m1
          refine (member_ok P Q G y true _ HH.out y0 yP ⟨fun _ => HM.out, fun _ => rfl⟩).mono ?_
          rintro e w3 ⟨rfl, hb3⟩
          replace F_g := Lib.hid (F_g.out.keep hb3)
          replace F_s := Lib.hid (F_s.out.keep hb3)
          replace F_m := Lib.hid (F_m.out.keep hb3)
          replace HBW := Lib.hid (HBW.out.trans (hb3.mono HBW.out.size))
          clear hb3
          go_wp2_with fail
          go_roundw
          case rel => exact ⟨1, by omega, by go_num, fun _ => HM.out, fun h => absurd h (by omega), F_g.out, F_s.out, F_m.out, HBW.out⟩
          case measure => simp [intOf]
      case inr.inl =>
        have HX0 := Lib.hid (hx0 (by omega))
        clear hx0 hx1
        rw [show ((1 : Nat) : Int) = 1 from rfl]
        by_cases hM : Mem P Q R
        case neg =>
          have HM := Lib.hid hM
          have HZ := Lib.hid (show false = v by rw [Bool.eq_iff_iff, HV.out]; exact ⟨fun h => (by cases h), fun h => absurd h.2.1 HM.out⟩)
          clear hM
          obtain ⟨s0, s1, s2, -⟩ := id F_g.out
          have m0 := F_m.out.c 0 (by simp)
          have m1 := F_m.out.c 1 (by simp)
          go_wp2_with fail
          clear s0 s1 s2 m0 m1
          refine (member_ok P Q G R false _ HH.out R0 RP ⟨fun h => (by cases h), fun h => absurd h HM.out⟩).mono ?_
          rintro e w3 ⟨rfl, hb3⟩
          replace F_g := Lib.hid (F_g.out.keep hb3)
          replace F_s := Lib.hid (F_s.out.keep hb3)
          replace F_m := Lib.hid (F_m.out.keep hb3)
          replace HBW := Lib.hid (HBW.out.trans (hb3.mono HBW.out.size))
          clear hb3
          go_wp2_with fail
          go_ret2
          exact ⟨ret_bi HZ.out rfl, HBW.out⟩
        case pos =>
          have HM := Lib.hid hM
          clear hM
          obtain ⟨s0, s1, s2, -⟩ := id F_g.out
          have m0 := F_m.out.c 0 (by simp)
          have m1 := F_m.out.c 1 (by simp)
          go_wp2_with fail
          clear s0 s1 s2 m0 m1
          refine (member_ok P Q G R true _ HH.out R0 RP ⟨fun _ => HM.out, fun _ => rfl⟩).mono ?_
          rintro e w3 ⟨rfl, hb3⟩
          replace F_g := Lib.hid (F_g.out.keep hb3)
          replace F_s := Lib.hid (F_s.out.keep hb3)
          replace F_m := Lib.hid (F_m.out.keep hb3)
          replace HBW := Lib.hid (HBW.out.trans (hb3.mono HBW.out.size))
          clear hb3
          go_wp2_with fail
          go_roundw
          case rel => exact ⟨2, by omega, by go_num, fun _ => HX0.out, fun _ => HM.out, F_g.out, F_s.out, F_m.out, HBW.out⟩
          case measure => simp [intOf]
      case inr.inr =>
        have HX0 := Lib.hid (hx0 (by omega))
        have HX1 := Lib.hid (hx1 (by omega))
        clear hx0 hx1
        rw [show ((2 : Nat) : Int) = 2 from rfl]
        have HFI := Lib.hid (show RetB (askS P Q G [h_, S] [y, R]) (powm G S P = R * powm y h_ P % P) v 0 from .inl ⟨HHO.out, HV.out.trans ⟨fun h => by rw [← HCC.out]; exact h.2.2, fun h => ⟨HX0.out, HX1.out, by rw [HCC.out]; exact h⟩⟩, rfl⟩)
        obtain ⟨s0, s1, s2, -⟩ := id F_g.out
        obtain ⟨m0, m1, -, -, -⟩ := id F_s.out
        go_wp2_with fail
        clear s0 s1 s2 m0 m1
        refine (sholds_any (v := v) (e' := 0) _ hP hQ hG y0 R0 h0 S0 HFI.out).mono ?_
        rintro e w3 ⟨rfl, hb3⟩
        replace HBW := Lib.hid (HBW.out.trans (hb3.mono HBW.out.size))
        clear hb3
        go_wp2_with fail
        go_ret2
        exact ⟨rfl, HBW.out⟩
  · by_cases ha : askS P Q G [S] [y, R] = 0
    · have hn8 := lgS_long ha h
      obtain rfl : e' = 4 := by rw [hc]; exact lgS_four ha hn8
      have HR := Lib.hid ha
      have hd : decide ((8000 : Int) < (n : Int)) = true := by simp; omega
      have hdn : decide (8000 < n) = true := by simp; omega
      have UY := Lib.hid uy
      have UR := Lib.hid uR
      have HCH := Lib.hid (show RetS (lgS (askS P Q G [] [y, R]) n) (chV Q [y, R] T) 0 4 from by
        obtain ⟨hH, he, hnn⟩ := askS_zero ha
        have h4 := lgS_four (askS_ok hH (es := []) (ns := [y, R]) (by simp) (by simp; exact ⟨hnn y (by simp), hnn R (by simp)⟩)) hn8
        exact .inr ⟨by rw [h4]; decide, rfl, h4.symm⟩)
      clear h hc ha uy uR
      have F_g := Lib.hid (show Boxed ((((w.alloc (.cells #[.int .u64 P, .int .u64 Q, .int .u64 G] 24)).alloc (.cells #[.int .u64 R, .int .u64 S] 27)).alloc (.cells #[.int .u64 S] 22)).alloc (.cells #[.int .u64 y, .int .u64 R] 22)) (w.heap.size) P Q G from (((Boxed.at _ P Q G _ (w.heap.size) (by simp)).alloc _).alloc _).alloc _)
      have F_s := Lib.hid (show Pair ((((w.alloc (.cells #[.int .u64 P, .int .u64 Q, .int .u64 G] 24)).alloc (.cells #[.int .u64 R, .int .u64 S] 27)).alloc (.cells #[.int .u64 S] 22)).alloc (.cells #[.int .u64 y, .int .u64 R] 22)) (w.heap.size + 1) R S from ((Pair.at _ R S _ (w.heap.size + 1) (by simp)).alloc _).alloc _)
      have F_es := Lib.hid (show ShL ((((w.alloc (.cells #[.int .u64 P, .int .u64 Q, .int .u64 G] 24)).alloc (.cells #[.int .u64 R, .int .u64 S] 27)).alloc (.cells #[.int .u64 S] 22)).alloc (.cells #[.int .u64 y, .int .u64 R] 22)) (some ⟨w.heap.size + 1 + 1, 0, none⟩) 1 1 [S] from (ShL.laid _ [S] _ _ (w.heap.size + 1 + 1) _ _ (by simp) rfl rfl).alloc _)
      have F_ns := Lib.hid (show ShL ((((w.alloc (.cells #[.int .u64 P, .int .u64 Q, .int .u64 G] 24)).alloc (.cells #[.int .u64 R, .int .u64 S] 27)).alloc (.cells #[.int .u64 S] 22)).alloc (.cells #[.int .u64 y, .int .u64 R] 22)) (some ⟨w.heap.size + 1 + 1 + 1, 0, none⟩) 2 2 [y, R] from ShL.laid _ [y, R] _ _ (w.heap.size + 1 + 1 + 1) _ _ (by simp) rfl rfl)
      have HBW := Lib.hid (show Below w.heap.size w ((((w.alloc (.cells #[.int .u64 P, .int .u64 Q, .int .u64 G] 24)).alloc (.cells #[.int .u64 R, .int .u64 S] 27)).alloc (.cells #[.int .u64 S] 22)).alloc (.cells #[.int .u64 y, .int .u64 R] 22)) from ((((Below.refl _ _).alloc (by simp <;> omega) _).alloc (by simp <;> omega) _).alloc (by simp <;> omega) _).alloc (by simp <;> omega) _)
      go_enter Tryd.func12, Tryd.ntmps12
      obtain ⟨x0a, x0b, x0c, -⟩ := id F_g.out
      obtain ⟨x1a, x1b, x1c, x1d, -⟩ := id F_s.out
      go_wp2_with fail
      clear x0a x0b x0c x1a x1b x1c x1d
      refine (scheck_any _ hP hQ hG F_es.out F_ns.out (by simp) (by simp) HR.out).mono ?_
      rintro e w1 ⟨rfl, hb1⟩
      replace F_g := Lib.hid (F_g.out.keep hb1)
      replace F_s := Lib.hid (F_s.out.keep hb1)
      replace F_es := Lib.hid (F_es.out.keep hb1)
      replace F_ns := Lib.hid (F_ns.out.keep hb1)
      replace HBW := Lib.hid (HBW.out.trans (hb1.mono HBW.out.size))
      clear hb1
      clear F_es
      clear F_ns
      obtain ⟨x0a, x0b, x0c, -⟩ := id F_g.out
      obtain ⟨x1a, x1b, x1c, x1d, -⟩ := id F_s.out
      go_wp2_with fail
      clear x0a x0b x0c x1a x1b x1c x1d
      refine (schallenge_any (v := 0) (c := 4) _ (HT.out.keep HBW.out) hP hQ hG UY.out UR.out hn HCH.out).mono ?_
      rintro e w2 ⟨rfl, hb2⟩
      replace F_g := Lib.hid (F_g.out.keep hb2)
      replace F_s := Lib.hid (F_s.out.keep hb2)
      replace HBW := Lib.hid (HBW.out.trans (hb2.mono HBW.out.size))
      clear hb2
      obtain ⟨x0a, x0b, x0c, -⟩ := id F_g.out
      obtain ⟨x1a, x1b, x1c, x1d, -⟩ := id F_s.out
      go_wp2_with fail
      go_ret2
      exact ⟨rfl, HBW.out⟩
    · have hc' : e' = askS P Q G [S] [y, R] := by rw [hc]; exact lgS_ne ha
      have hnc : e' ≠ 0 := by rw [hc']; exact ha
      have hn1 : (e' != 0) = true := by simpa using hnc
      have hn2 : (e' == 0) = false := by simpa using hnc
      have HR := Lib.hid hc'.symm
      clear h hc ha hc' hnc
      have F_g := Lib.hid (show Boxed ((((w.alloc (.cells #[.int .u64 P, .int .u64 Q, .int .u64 G] 24)).alloc (.cells #[.int .u64 R, .int .u64 S] 27)).alloc (.cells #[.int .u64 S] 22)).alloc (.cells #[.int .u64 y, .int .u64 R] 22)) (w.heap.size) P Q G from (((Boxed.at _ P Q G _ (w.heap.size) (by simp)).alloc _).alloc _).alloc _)
      have F_s := Lib.hid (show Pair ((((w.alloc (.cells #[.int .u64 P, .int .u64 Q, .int .u64 G] 24)).alloc (.cells #[.int .u64 R, .int .u64 S] 27)).alloc (.cells #[.int .u64 S] 22)).alloc (.cells #[.int .u64 y, .int .u64 R] 22)) (w.heap.size + 1) R S from ((Pair.at _ R S _ (w.heap.size + 1) (by simp)).alloc _).alloc _)
      have F_es := Lib.hid (show ShL ((((w.alloc (.cells #[.int .u64 P, .int .u64 Q, .int .u64 G] 24)).alloc (.cells #[.int .u64 R, .int .u64 S] 27)).alloc (.cells #[.int .u64 S] 22)).alloc (.cells #[.int .u64 y, .int .u64 R] 22)) (some ⟨w.heap.size + 1 + 1, 0, none⟩) 1 1 [S] from (ShL.laid _ [S] _ _ (w.heap.size + 1 + 1) _ _ (by simp) rfl rfl).alloc _)
      have F_ns := Lib.hid (show ShL ((((w.alloc (.cells #[.int .u64 P, .int .u64 Q, .int .u64 G] 24)).alloc (.cells #[.int .u64 R, .int .u64 S] 27)).alloc (.cells #[.int .u64 S] 22)).alloc (.cells #[.int .u64 y, .int .u64 R] 22)) (some ⟨w.heap.size + 1 + 1 + 1, 0, none⟩) 2 2 [y, R] from ShL.laid _ [y, R] _ _ (w.heap.size + 1 + 1 + 1) _ _ (by simp) rfl rfl)
      have HBW := Lib.hid (show Below w.heap.size w ((((w.alloc (.cells #[.int .u64 P, .int .u64 Q, .int .u64 G] 24)).alloc (.cells #[.int .u64 R, .int .u64 S] 27)).alloc (.cells #[.int .u64 S] 22)).alloc (.cells #[.int .u64 y, .int .u64 R] 22)) from ((((Below.refl _ _).alloc (by simp <;> omega) _).alloc (by simp <;> omega) _).alloc (by simp <;> omega) _).alloc (by simp <;> omega) _)
      go_enter Tryd.func12, Tryd.ntmps12
      obtain ⟨x0a, x0b, x0c, -⟩ := id F_g.out
      obtain ⟨x1a, x1b, x1c, x1d, -⟩ := id F_s.out
      go_wp2_with fail
      clear x0a x0b x0c x1a x1b x1c x1d
      refine (scheck_any _ hP hQ hG F_es.out F_ns.out (by simp) (by simp) HR.out).mono ?_
      rintro e w1 ⟨rfl, hb1⟩
      replace F_g := Lib.hid (F_g.out.keep hb1)
      replace F_s := Lib.hid (F_s.out.keep hb1)
      replace F_es := Lib.hid (F_es.out.keep hb1)
      replace F_ns := Lib.hid (F_ns.out.keep hb1)
      replace HBW := Lib.hid (HBW.out.trans (hb1.mono HBW.out.size))
      clear hb1
      clear F_es
      clear F_ns
      obtain ⟨x0a, x0b, x0c, -⟩ := id F_g.out
      obtain ⟨x1a, x1b, x1c, x1d, -⟩ := id F_s.out
      go_wp2_with fail
      go_ret2
      exact ⟨rfl, HBW.out⟩

set_option maxRecDepth 100000 in
set_option maxHeartbeats 8000000 in
theorem rRight_any {P Q G y R S : Int} {v : Bool} {tx : Option Addr} {n cp : Nat} {T : List Int} (w : World) (hT : Txt w tx n T) (hH : Has P Q G) (y0 : 0 ≤ y) (yP : y < P) (R0 : 0 ≤ R) (RP : R < P) (S0 : 0 ≤ S) (SQ : S < Q) (hn8 : n ≤ 8000) (hv : v = true ↔ vfP P Q G y R S T) :
    Calls Tryd.prog 34 #[.agg #[.int .u64 P, .int .u64 Q, .int .u64 G], .int .u64 y, .slice tx n cp, .agg #[.int .u64 R, .int .u64 S]] w fun e w' => e = .returned (.bool v) ∧ Below w.heap.size w w' := by
  have HT := Lib.hid hT
  have HV := Lib.hid hv
  clear hT hv
  obtain ⟨p5, p3, hQ', pq, g2, gP⟩ := id hH
  have hP1 : 1 ≤ P := by omega
  have hGM : G < 2147483648 := by omega
  have q3 : Q < 1073741824 := by omega
  have q2 : 2 ≤ Q := by omega
  have HH := Lib.hid hH
  clear hH pq
  have hG : 0 ≤ G := by omega
  have Q0 : 0 ≤ Q := by omega
  have PM : P < 2147483648 := by omega
  obtain ⟨h_, hh⟩ : ∃ h_, chV Q [y, R] T = h_ := ⟨_, rfl⟩
  obtain ⟨h0, hQQ⟩ : 0 ≤ h_ ∧ h_ < Q := by rw [← hh]; exact chV_range (by omega) _ _
  have HCC := Lib.hid hh
  clear hh
  have UH := Lib.hid (U64.of_lt h0 (by omega))
  have US := Lib.hid (U64.of_lt S0 (by omega))
  have UY := Lib.hid (U64.of_lt y0 (by omega))
  have UR := Lib.hid (U64.of_lt R0 (by omega))
  have HUS := Lib.hid (show ∀ z, z ∈ [y, R] → U64 z from fun z hz => by simp at hz; rcases hz with rfl | rfl; exact UY.out; exact UR.out)
  by_cases hMy : Mem P Q y
  case neg =>
    have HMy := Lib.hid hMy
    have HZ := Lib.hid (show false = v by rw [Bool.eq_iff_iff, HV.out]; exact ⟨fun h => (by cases h), fun h => absurd h.1 HMy.out⟩)
    clear hMy
    have F_g := Lib.hid (show Boxed ((w.alloc (.cells #[.int .u64 P, .int .u64 Q, .int .u64 G] 24)).alloc (.cells #[.int .u64 R, .int .u64 S] 27)) (w.heap.size) P Q G from (Boxed.at _ P Q G _ (w.heap.size) (by simp)).alloc _)
    have F_s := Lib.hid (show Pair ((w.alloc (.cells #[.int .u64 P, .int .u64 Q, .int .u64 G] 24)).alloc (.cells #[.int .u64 R, .int .u64 S] 27)) (w.heap.size + 1) R S from Pair.at _ R S _ (w.heap.size + 1) (by simp))
    have HBW := Lib.hid (show Below w.heap.size w ((w.alloc (.cells #[.int .u64 P, .int .u64 Q, .int .u64 G] 24)).alloc (.cells #[.int .u64 R, .int .u64 S] 27)) from ((Below.refl _ _).alloc (by simp <;> omega) _).alloc (by simp <;> omega) _)
    go_enter Tryd.func34, Tryd.ntmps34
    go_wp2_with fail
    replace F_g := Lib.hid F_g.out.drew
    replace F_s := Lib.hid F_s.out.drew
    replace HBW := Lib.hid HBW.out.drew
    have hS := And.intro F_g.out.s F_s.out.s
    refine wp_region_stage 2 (fun w' => SBox w' w.heap.size P Q G ∧ SPair w' (w.heap.size + 1) R S) (by kernel_rfl) ?_
    refine wpAnyB_take (i := 0) (some 9) (Op.load 24 (Operand.tmp 4)) 24 (v := ?_) ⟨_, rfl, rfl, rfl, rfl, rfl⟩ (by kernel_rfl) (by kernel_rfl) (by kernel_rfl) [2] (by kernel_rfl) (fun _ _ _ h => h) hS (fun w' hSw => ?_) ?_
    rotate_left
    · obtain ⟨⟨s0, s1, s2⟩, ⟨s3, s4⟩⟩ := hSw
      unfold bareOp
      go_simp
      try with_reducible rfl
    simp only [Act.put, List.setIfInBounds_toArray, List.set_cons_zero, List.set_cons_succ]
    refine wpAnyB_takeP (i := 1) (some 10) (Op.move (Operand.tmp 1)) 22 (v := ?_) ⟨_, rfl, rfl, rfl, rfl, rfl⟩ (by kernel_rfl) (by kernel_rfl) (by kernel_rfl) (by kernel_rfl) (fun _ _ _ h => h) (fun _ => hS) (fun w' => ?_) ?_
    rotate_left
    · unfold bareOp
      go_simp
      try with_reducible rfl
    simp only [Act.put, List.setIfInBounds_toArray, List.set_cons_zero, List.set_cons_succ]
    refine wpAnyB_only (i := 2) (some 11) (Op.call { callee := Callee.value (Operand.func 54), args := #[Operand.tmp 9, Operand.tmp 10], argTypes := #[24, 22] }) 4 ⟨_, rfl, rfl, rfl, rfl, rfl⟩ (by kernel_rfl) (fun K hK => ?_)
    unfold bareOp
    go_wp2_with (go_at_call 54; refine (rIn_gen (r := false) Q0 _ HH.out y0 yP ⟨fun h => (by cases h), fun h => absurd h HMy.out⟩).mono ?_; rintro e w1 ⟨rfl, hb1⟩)
    replace F_g := Lib.hid (F_g.out.keep hb1)
    replace F_s := Lib.hid (F_s.out.keep hb1)
    replace HBW := Lib.hid (HBW.out.trans (hb1.mono HBW.out.size))
    replace hS := And.intro F_g.out.s F_s.out.s
    clear hb1
    refine hK.out _ _ (fun h => absurd (h.symm.trans (by kernel_rfl : _ = true)) (by decide)) ?_
    clear hK K
    try simp only [Act.put, List.setIfInBounds_toArray, List.set_cons_zero, List.set_cons_succ]
    refine wpAnyB_takeP (i := 3) (some 12) (Op.move (Operand.tmp 11)) 4 (v := ?_) ⟨_, rfl, rfl, rfl, rfl, rfl⟩ (by kernel_rfl) (by kernel_rfl) (by kernel_rfl) (by kernel_rfl) (fun _ _ _ h => h) (fun h => absurd (h.symm.trans (by kernel_rfl : _ = true)) (by decide)) (fun w' => ?_) ?_
    rotate_left
    · unfold bareOp
      go_simp
      try with_reducible rfl
    simp only [Act.put, List.setIfInBounds_toArray, List.set_cons_zero, List.set_cons_succ]
    refine wpAnyB_skip (i := 4) (some 13) (Op.load 24 (Operand.tmp 4)) 24 (some (3, true)) ⟨_, rfl, rfl, rfl, rfl, rfl⟩ rfl (by kernel_rfl) (by kernel_rfl) (by kernel_rfl) (by kernel_rfl) (fun _ _ _ h => h) (fun h => absurd (h.symm.trans (by kernel_rfl : _ = true)) (by decide)) ?_
    simp only [Act.put, List.setIfInBounds_toArray, List.set_cons_zero, List.set_cons_succ]
    refine wpAnyB_skip (i := 5) (some 14) (Op.fieldAddr 27 (Operand.tmp 7) 0) 0 (some (3, true)) ⟨_, rfl, rfl, rfl, rfl, rfl⟩ rfl (by kernel_rfl) (by kernel_rfl) (by kernel_rfl) (by kernel_rfl) (fun _ _ _ h => h) (fun h => absurd (h.symm.trans (by kernel_rfl : _ = true)) (by decide)) ?_
    simp only [Act.put, List.setIfInBounds_toArray, List.set_cons_zero, List.set_cons_succ]
    refine wpAnyB_skip (i := 6) (some 15) (Op.load 22 (Operand.tmp 14)) 22 (some (3, true)) ⟨_, rfl, rfl, rfl, rfl, rfl⟩ rfl (by kernel_rfl) (by kernel_rfl) (by kernel_rfl) (by kernel_rfl) (fun _ _ _ h => h) (fun h => absurd (h.symm.trans (by kernel_rfl : _ = true)) (by decide)) ?_
    simp only [Act.put, List.setIfInBounds_toArray, List.set_cons_zero, List.set_cons_succ]
    refine wpAnyB_skip (i := 7) (some 16) (Op.call { callee := Callee.value (Operand.func 54), args := #[Operand.tmp 13, Operand.tmp 15], argTypes := #[24, 22] }) 4 (some (3, true)) ⟨_, rfl, rfl, rfl, rfl, rfl⟩ rfl (by kernel_rfl) (by kernel_rfl) (by kernel_rfl) (by kernel_rfl) (fun _ _ _ h => h) (fun h => absurd (h.symm.trans (by kernel_rfl : _ = true)) (by decide)) ?_
    simp only [Act.put, List.setIfInBounds_toArray, List.set_cons_zero, List.set_cons_succ]
    refine wpAnyB_takeP (i := 8) (some 17) (Op.pick (Operand.tmp 12) (Operand.tmp 16) (Operand.const (Value.bool false))) 4 (v := ?_) ⟨_, rfl, rfl, rfl, rfl, rfl⟩ (by kernel_rfl) (by kernel_rfl) (by kernel_rfl) (by kernel_rfl) (fun _ _ _ h => h) (fun h => absurd (h.symm.trans (by kernel_rfl : _ = true)) (by decide)) (fun w' => ?_) ?_
    rotate_left
    · unfold bareOp
      go_simp
      try with_reducible rfl
    simp only [Act.put, List.setIfInBounds_toArray, List.set_cons_zero, List.set_cons_succ]
    refine wpAnyB_takeP (i := 9) (some 18) (Op.move (Operand.tmp 17)) 4 (v := ?_) ⟨_, rfl, rfl, rfl, rfl, rfl⟩ (by kernel_rfl) (by kernel_rfl) (by kernel_rfl) (by kernel_rfl) (fun _ _ _ h => h) (fun h => absurd (h.symm.trans (by kernel_rfl : _ = true)) (by decide)) (fun w' => ?_) ?_
    rotate_left
    · unfold bareOp
      go_simp
      try with_reducible rfl
    simp only [Act.put, List.setIfInBounds_toArray, List.set_cons_zero, List.set_cons_succ]
    refine wpAnyB_skip (i := 10) (some 19) (Op.load 24 (Operand.tmp 4)) 24 (some (9, true)) ⟨_, rfl, rfl, rfl, rfl, rfl⟩ rfl (by kernel_rfl) (by kernel_rfl) (by kernel_rfl) (by kernel_rfl) (fun _ _ _ h => h) (fun h => absurd (h.symm.trans (by kernel_rfl : _ = true)) (by decide)) ?_
    simp only [Act.put, List.setIfInBounds_toArray, List.set_cons_zero, List.set_cons_succ]
    refine wpAnyB_skip (i := 11) (some 20) (Op.fieldAddr 24 (Operand.tmp 4) 2) 0 (some (9, true)) ⟨_, rfl, rfl, rfl, rfl, rfl⟩ rfl (by kernel_rfl) (by kernel_rfl) (by kernel_rfl) (by kernel_rfl) (fun _ _ _ h => h) (fun h => absurd (h.symm.trans (by kernel_rfl : _ = true)) (by decide)) ?_
    simp only [Act.put, List.setIfInBounds_toArray, List.set_cons_zero, List.set_cons_succ]
    refine wpAnyB_skip (i := 12) (some 21) (Op.load 22 (Operand.tmp 20)) 22 (some (9, true)) ⟨_, rfl, rfl, rfl, rfl, rfl⟩ rfl (by kernel_rfl) (by kernel_rfl) (by kernel_rfl) (by kernel_rfl) (fun _ _ _ h => h) (fun h => absurd (h.symm.trans (by kernel_rfl : _ = true)) (by decide)) ?_
    simp only [Act.put, List.setIfInBounds_toArray, List.set_cons_zero, List.set_cons_succ]
    refine wpAnyB_skip (i := 13) (some 22) (Op.move (Operand.tmp 1)) 22 (some (9, true)) ⟨_, rfl, rfl, rfl, rfl, rfl⟩ rfl (by kernel_rfl) (by kernel_rfl) (by kernel_rfl) (by kernel_rfl) (fun _ _ _ h => h) (fun h => absurd (h.symm.trans (by kernel_rfl : _ = true)) (by decide)) ?_
    simp only [Act.put, List.setIfInBounds_toArray, List.set_cons_zero, List.set_cons_succ]
    refine wpAnyB_skip (i := 14) (some 23) (Op.fieldAddr 27 (Operand.tmp 7) 0) 0 (some (9, true)) ⟨_, rfl, rfl, rfl, rfl, rfl⟩ rfl (by kernel_rfl) (by kernel_rfl) (by kernel_rfl) (by kernel_rfl) (fun _ _ _ h => h) (fun h => absurd (h.symm.trans (by kernel_rfl : _ = true)) (by decide)) ?_
    simp only [Act.put, List.setIfInBounds_toArray, List.set_cons_zero, List.set_cons_succ]
    refine wpAnyB_skip (i := 15) (some 24) (Op.load 22 (Operand.tmp 23)) 22 (some (9, true)) ⟨_, rfl, rfl, rfl, rfl, rfl⟩ rfl (by kernel_rfl) (by kernel_rfl) (by kernel_rfl) (by kernel_rfl) (fun _ _ _ h => h) (fun h => absurd (h.symm.trans (by kernel_rfl : _ = true)) (by decide)) ?_
    simp only [Act.put, List.setIfInBounds_toArray, List.set_cons_zero, List.set_cons_succ]
    refine wpAnyB_skip (i := 16) (some 25) (Op.load 24 (Operand.tmp 4)) 24 (some (9, true)) ⟨_, rfl, rfl, rfl, rfl, rfl⟩ rfl (by kernel_rfl) (by kernel_rfl) (by kernel_rfl) (by kernel_rfl) (fun _ _ _ h => h) (fun h => absurd (h.symm.trans (by kernel_rfl : _ = true)) (by decide)) ?_
    simp only [Act.put, List.setIfInBounds_toArray, List.set_cons_zero, List.set_cons_succ]
    refine wpAnyB_skip (i := 17) (some 26) (Op.move (Operand.tmp 1)) 22 (some (9, true)) ⟨_, rfl, rfl, rfl, rfl, rfl⟩ rfl (by kernel_rfl) (by kernel_rfl) (by kernel_rfl) (by kernel_rfl) (fun _ _ _ h => h) (fun h => absurd (h.symm.trans (by kernel_rfl : _ = true)) (by decide)) ?_
    simp only [Act.put, List.setIfInBounds_toArray, List.set_cons_zero, List.set_cons_succ]
    refine wpAnyB_skip (i := 18) (some 27) (Op.fieldAddr 27 (Operand.tmp 7) 0) 0 (some (9, true)) ⟨_, rfl, rfl, rfl, rfl, rfl⟩ rfl (by kernel_rfl) (by kernel_rfl) (by kernel_rfl) (by kernel_rfl) (fun _ _ _ h => h) (fun h => absurd (h.symm.trans (by kernel_rfl : _ = true)) (by decide)) ?_
    simp only [Act.put, List.setIfInBounds_toArray, List.set_cons_zero, List.set_cons_succ]
    refine wpAnyB_skip (i := 19) (some 28) (Op.load 22 (Operand.tmp 27)) 22 (some (9, true)) ⟨_, rfl, rfl, rfl, rfl, rfl⟩ rfl (by kernel_rfl) (by kernel_rfl) (by kernel_rfl) (by kernel_rfl) (fun _ _ _ h => h) (fun h => absurd (h.symm.trans (by kernel_rfl : _ = true)) (by decide)) ?_
    simp only [Act.put, List.setIfInBounds_toArray, List.set_cons_zero, List.set_cons_succ]
    refine wpAnyB_skip (i := 20) (some 29) (Op.buildSlice 52 2 #[(0, Operand.tmp 26), (1, Operand.tmp 28)]) 52 (some (9, true)) ⟨_, rfl, rfl, rfl, rfl, rfl⟩ rfl (by kernel_rfl) (by kernel_rfl) (by kernel_rfl) (by kernel_rfl) (fun _ _ _ h => h) (fun h => absurd (h.symm.trans (by kernel_rfl : _ = true)) (by decide)) ?_
    simp only [Act.put, List.setIfInBounds_toArray, List.set_cons_zero, List.set_cons_succ]
    refine wpAnyB_skip (i := 21) (some 30) (Op.move (Operand.tmp 2)) 25 (some (9, true)) ⟨_, rfl, rfl, rfl, rfl, rfl⟩ rfl (by kernel_rfl) (by kernel_rfl) (by kernel_rfl) (by kernel_rfl) (fun _ _ _ h => h) (fun h => absurd (h.symm.trans (by kernel_rfl : _ = true)) (by decide)) ?_
    simp only [Act.put, List.setIfInBounds_toArray, List.set_cons_zero, List.set_cons_succ]
    refine wpAnyB_skip (i := 22) (some 31) (Op.call { callee := Callee.value (Operand.func 26), args := #[Operand.tmp 25, Operand.tmp 29, Operand.tmp 30], argTypes := #[24, 52, 25] }) 22 (some (9, true)) ⟨_, rfl, rfl, rfl, rfl, rfl⟩ rfl (by kernel_rfl) (by kernel_rfl) (by kernel_rfl) (by kernel_rfl) (fun _ _ _ h => h) (fun h => absurd (h.symm.trans (by kernel_rfl : _ = true)) (by decide)) ?_
    simp only [Act.put, List.setIfInBounds_toArray, List.set_cons_zero, List.set_cons_succ]
    refine wpAnyB_skip (i := 23) (some 32) (Op.fieldAddr 27 (Operand.tmp 7) 1) 0 (some (9, true)) ⟨_, rfl, rfl, rfl, rfl, rfl⟩ rfl (by kernel_rfl) (by kernel_rfl) (by kernel_rfl) (by kernel_rfl) (fun _ _ _ h => h) (fun h => absurd (h.symm.trans (by kernel_rfl : _ = true)) (by decide)) ?_
    simp only [Act.put, List.setIfInBounds_toArray, List.set_cons_zero, List.set_cons_succ]
    refine wpAnyB_skip (i := 24) (some 33) (Op.load 22 (Operand.tmp 32)) 22 (some (9, true)) ⟨_, rfl, rfl, rfl, rfl, rfl⟩ rfl (by kernel_rfl) (by kernel_rfl) (by kernel_rfl) (by kernel_rfl) (fun _ _ _ h => h) (fun h => absurd (h.symm.trans (by kernel_rfl : _ = true)) (by decide)) ?_
    simp only [Act.put, List.setIfInBounds_toArray, List.set_cons_zero, List.set_cons_succ]
    refine wpAnyB_skip (i := 25) (some 34) (Op.call { callee := Callee.value (Operand.func 55), args := #[Operand.tmp 19, Operand.tmp 21, Operand.tmp 22, Operand.tmp 24, Operand.tmp 31, Operand.tmp 33], argTypes := #[24, 22, 22, 22, 22, 22] }) 4 (some (9, true)) ⟨_, rfl, rfl, rfl, rfl, rfl⟩ rfl (by kernel_rfl) (by kernel_rfl) (by kernel_rfl) (by kernel_rfl) (fun _ _ _ h => h) (fun h => absurd (h.symm.trans (by kernel_rfl : _ = true)) (by decide)) ?_
    simp only [Act.put, List.setIfInBounds_toArray, List.set_cons_zero, List.set_cons_succ]
    refine wpAnyB_takeP (i := 26) (some 35) (Op.pick (Operand.tmp 18) (Operand.tmp 34) (Operand.const (Value.bool false))) 4 (v := ?_) ⟨_, rfl, rfl, rfl, rfl, rfl⟩ (by kernel_rfl) (by kernel_rfl) (by kernel_rfl) (by kernel_rfl) (fun _ _ _ h => h) (fun h => absurd (h.symm.trans (by kernel_rfl : _ = true)) (by decide)) (fun w' => ?_) ?_
    rotate_left
    · unfold bareOp
      go_simp
      try with_reducible rfl
    simp only [Act.put, List.setIfInBounds_toArray, List.set_cons_zero, List.set_cons_succ]
    refine wpAnyB_takeP (i := 27) (some 8) (Op.assign (Operand.tmp 35)) 4 (v := ?_) ⟨_, rfl, rfl, rfl, rfl, rfl⟩ (by kernel_rfl) (by kernel_rfl) (by kernel_rfl) (by kernel_rfl) (fun _ _ _ h => h) (fun h => absurd (h.symm.trans (by kernel_rfl : _ = true)) (by decide)) (fun w' => ?_) ?_
    rotate_left
    · unfold bareOp
      go_simp
      try with_reducible rfl
    simp only [Act.put, List.setIfInBounds_toArray, List.set_cons_zero, List.set_cons_succ]
    refine wpAnyB_done (by kernel_rfl) ?_ _
    go_wp2_with fail
    go_ret
    exact ⟨ret_bool HZ.out, HBW.out⟩
  case pos =>
    by_cases hMR : Mem P Q R
    case neg =>
      have HMy := Lib.hid hMy
      have HMR := Lib.hid hMR
      have HZ := Lib.hid (show false = v by rw [Bool.eq_iff_iff, HV.out]; exact ⟨fun h => (by cases h), fun h => absurd h.2.1 HMR.out⟩)
      clear hMy hMR
      have F_g := Lib.hid (show Boxed ((w.alloc (.cells #[.int .u64 P, .int .u64 Q, .int .u64 G] 24)).alloc (.cells #[.int .u64 R, .int .u64 S] 27)) (w.heap.size) P Q G from (Boxed.at _ P Q G _ (w.heap.size) (by simp)).alloc _)
      have F_s := Lib.hid (show Pair ((w.alloc (.cells #[.int .u64 P, .int .u64 Q, .int .u64 G] 24)).alloc (.cells #[.int .u64 R, .int .u64 S] 27)) (w.heap.size + 1) R S from Pair.at _ R S _ (w.heap.size + 1) (by simp))
      have HBW := Lib.hid (show Below w.heap.size w ((w.alloc (.cells #[.int .u64 P, .int .u64 Q, .int .u64 G] 24)).alloc (.cells #[.int .u64 R, .int .u64 S] 27)) from ((Below.refl _ _).alloc (by simp <;> omega) _).alloc (by simp <;> omega) _)
      go_enter Tryd.func34, Tryd.ntmps34
      go_wp2_with fail
      replace F_g := Lib.hid F_g.out.drew
      replace F_s := Lib.hid F_s.out.drew
      replace HBW := Lib.hid HBW.out.drew
      have hS := And.intro F_g.out.s F_s.out.s
      refine wp_region_stage 7 (fun w' => SBox w' w.heap.size P Q G ∧ SPair w' (w.heap.size + 1) R S) (by kernel_rfl) ?_
      refine wpAnyB_take (i := 0) (some 9) (Op.load 24 (Operand.tmp 4)) 24 (v := ?_) ⟨_, rfl, rfl, rfl, rfl, rfl⟩ (by kernel_rfl) (by kernel_rfl) (by kernel_rfl) [2, 3, 4, 5, 6, 7] (by kernel_rfl) (fun _ _ _ h => h) hS (fun w' hSw => ?_) ?_
      rotate_left
      · obtain ⟨⟨s0, s1, s2⟩, ⟨s3, s4⟩⟩ := hSw
        unfold bareOp
        go_simp
        try with_reducible rfl
      simp only [Act.put, List.setIfInBounds_toArray, List.set_cons_zero, List.set_cons_succ]
      refine wpAnyB_takeP (i := 1) (some 10) (Op.move (Operand.tmp 1)) 22 (v := ?_) ⟨_, rfl, rfl, rfl, rfl, rfl⟩ (by kernel_rfl) (by kernel_rfl) (by kernel_rfl) (by kernel_rfl) (fun _ _ _ h => h) (fun _ => hS) (fun w' => ?_) ?_
      rotate_left
      · unfold bareOp
        go_simp
        try with_reducible rfl
      simp only [Act.put, List.setIfInBounds_toArray, List.set_cons_zero, List.set_cons_succ]
      refine wpAnyB_only (i := 2) (some 11) (Op.call { callee := Callee.value (Operand.func 54), args := #[Operand.tmp 9, Operand.tmp 10], argTypes := #[24, 22] }) 4 ⟨_, rfl, rfl, rfl, rfl, rfl⟩ (by kernel_rfl) (fun K hK => ?_)
      unfold bareOp
      go_wp2_with (go_at_call 54; refine (rIn_gen (r := true) Q0 _ HH.out y0 yP ⟨fun _ => HMy.out, fun _ => rfl⟩).mono ?_; rintro e w1 ⟨rfl, hb1⟩)
      replace F_g := Lib.hid (F_g.out.keep hb1)
      replace F_s := Lib.hid (F_s.out.keep hb1)
      replace HBW := Lib.hid (HBW.out.trans (hb1.mono HBW.out.size))
      replace hS := And.intro F_g.out.s F_s.out.s
      clear hb1
      refine hK.out _ _ (fun _ => hS) ?_
      clear hK K
      try simp only [Act.put, List.setIfInBounds_toArray, List.set_cons_zero, List.set_cons_succ]
      refine wpAnyB_takeP (i := 3) (some 12) (Op.move (Operand.tmp 11)) 4 (v := ?_) ⟨_, rfl, rfl, rfl, rfl, rfl⟩ (by kernel_rfl) (by kernel_rfl) (by kernel_rfl) (by kernel_rfl) (fun _ _ _ h => h) (fun _ => hS) (fun w' => ?_) ?_
      rotate_left
      · unfold bareOp
        go_simp
        try with_reducible rfl
      simp only [Act.put, List.setIfInBounds_toArray, List.set_cons_zero, List.set_cons_succ]
      refine wpAnyB_takeG (i := 4) (some 13) (Op.load 24 (Operand.tmp 4)) 24 (some (3, true)) (v := ?_) ⟨_, rfl, rfl, rfl, rfl, rfl⟩ rfl (by kernel_rfl) (by kernel_rfl) (by kernel_rfl) [7] (by kernel_rfl) (fun _ _ _ h => h) hS (fun w' hSw => ?_) ?_
      rotate_left
      · obtain ⟨⟨s0, s1, s2⟩, ⟨s3, s4⟩⟩ := hSw
        unfold bareOp
        go_simp
        try with_reducible rfl
      simp only [Act.put, List.setIfInBounds_toArray, List.set_cons_zero, List.set_cons_succ]
      refine wpAnyB_takePG (i := 5) (some 14) (Op.fieldAddr 27 (Operand.tmp 7) 0) 0 (some (3, true)) (v := ?_) ⟨_, rfl, rfl, rfl, rfl, rfl⟩ rfl (by kernel_rfl) (by kernel_rfl) (by kernel_rfl) (by kernel_rfl) (fun _ _ _ h => h) (fun _ => hS) (fun w' => ?_) ?_
      rotate_left
      · unfold bareOp
        go_simp
        try with_reducible rfl
      simp only [Act.put, List.setIfInBounds_toArray, List.set_cons_zero, List.set_cons_succ]
      refine wpAnyB_takeG (i := 6) (some 15) (Op.load 22 (Operand.tmp 14)) 22 (some (3, true)) (v := ?_) ⟨_, rfl, rfl, rfl, rfl, rfl⟩ rfl (by kernel_rfl) (by kernel_rfl) (by kernel_rfl) [7] (by kernel_rfl) (fun _ _ _ h => h) hS (fun w' hSw => ?_) ?_
      rotate_left
      · obtain ⟨⟨s0, s1, s2⟩, ⟨s3, s4⟩⟩ := hSw
        unfold bareOp
        go_simp
        try with_reducible rfl
      simp only [Act.put, List.setIfInBounds_toArray, List.set_cons_zero, List.set_cons_succ]
      refine wpAnyB_onlyG (i := 7) (some 16) (Op.call { callee := Callee.value (Operand.func 54), args := #[Operand.tmp 13, Operand.tmp 15], argTypes := #[24, 22] }) 4 (some (3, true)) ⟨_, rfl, rfl, rfl, rfl, rfl⟩ (by kernel_rfl) rfl (fun K hK => ?_)
      unfold bareOp
      go_wp2_with (go_at_call 54; refine (rIn_gen (r := false) Q0 _ HH.out R0 RP ⟨fun h => (by cases h), fun h => absurd h HMR.out⟩).mono ?_; rintro e w2 ⟨rfl, hb2⟩)
      replace F_g := Lib.hid (F_g.out.keep hb2)
      replace F_s := Lib.hid (F_s.out.keep hb2)
      replace HBW := Lib.hid (HBW.out.trans (hb2.mono HBW.out.size))
      replace hS := And.intro F_g.out.s F_s.out.s
      clear hb2
      refine hK.out _ _ (fun h => absurd (h.symm.trans (by kernel_rfl : _ = true)) (by decide)) ?_
      clear hK K
      try simp only [Act.put, List.setIfInBounds_toArray, List.set_cons_zero, List.set_cons_succ]
      refine wpAnyB_takeP (i := 8) (some 17) (Op.pick (Operand.tmp 12) (Operand.tmp 16) (Operand.const (Value.bool false))) 4 (v := ?_) ⟨_, rfl, rfl, rfl, rfl, rfl⟩ (by kernel_rfl) (by kernel_rfl) (by kernel_rfl) (by kernel_rfl) (fun _ _ _ h => h) (fun h => absurd (h.symm.trans (by kernel_rfl : _ = true)) (by decide)) (fun w' => ?_) ?_
      rotate_left
      · unfold bareOp
        go_simp
        try with_reducible rfl
      simp only [Act.put, List.setIfInBounds_toArray, List.set_cons_zero, List.set_cons_succ]
      refine wpAnyB_takeP (i := 9) (some 18) (Op.move (Operand.tmp 17)) 4 (v := ?_) ⟨_, rfl, rfl, rfl, rfl, rfl⟩ (by kernel_rfl) (by kernel_rfl) (by kernel_rfl) (by kernel_rfl) (fun _ _ _ h => h) (fun h => absurd (h.symm.trans (by kernel_rfl : _ = true)) (by decide)) (fun w' => ?_) ?_
      rotate_left
      · unfold bareOp
        go_simp
        try with_reducible rfl
      simp only [Act.put, List.setIfInBounds_toArray, List.set_cons_zero, List.set_cons_succ]
      refine wpAnyB_skip (i := 10) (some 19) (Op.load 24 (Operand.tmp 4)) 24 (some (9, true)) ⟨_, rfl, rfl, rfl, rfl, rfl⟩ rfl (by kernel_rfl) (by kernel_rfl) (by kernel_rfl) (by kernel_rfl) (fun _ _ _ h => h) (fun h => absurd (h.symm.trans (by kernel_rfl : _ = true)) (by decide)) ?_
      simp only [Act.put, List.setIfInBounds_toArray, List.set_cons_zero, List.set_cons_succ]
      refine wpAnyB_skip (i := 11) (some 20) (Op.fieldAddr 24 (Operand.tmp 4) 2) 0 (some (9, true)) ⟨_, rfl, rfl, rfl, rfl, rfl⟩ rfl (by kernel_rfl) (by kernel_rfl) (by kernel_rfl) (by kernel_rfl) (fun _ _ _ h => h) (fun h => absurd (h.symm.trans (by kernel_rfl : _ = true)) (by decide)) ?_
      simp only [Act.put, List.setIfInBounds_toArray, List.set_cons_zero, List.set_cons_succ]
      refine wpAnyB_skip (i := 12) (some 21) (Op.load 22 (Operand.tmp 20)) 22 (some (9, true)) ⟨_, rfl, rfl, rfl, rfl, rfl⟩ rfl (by kernel_rfl) (by kernel_rfl) (by kernel_rfl) (by kernel_rfl) (fun _ _ _ h => h) (fun h => absurd (h.symm.trans (by kernel_rfl : _ = true)) (by decide)) ?_
      simp only [Act.put, List.setIfInBounds_toArray, List.set_cons_zero, List.set_cons_succ]
      refine wpAnyB_skip (i := 13) (some 22) (Op.move (Operand.tmp 1)) 22 (some (9, true)) ⟨_, rfl, rfl, rfl, rfl, rfl⟩ rfl (by kernel_rfl) (by kernel_rfl) (by kernel_rfl) (by kernel_rfl) (fun _ _ _ h => h) (fun h => absurd (h.symm.trans (by kernel_rfl : _ = true)) (by decide)) ?_
      simp only [Act.put, List.setIfInBounds_toArray, List.set_cons_zero, List.set_cons_succ]
      refine wpAnyB_skip (i := 14) (some 23) (Op.fieldAddr 27 (Operand.tmp 7) 0) 0 (some (9, true)) ⟨_, rfl, rfl, rfl, rfl, rfl⟩ rfl (by kernel_rfl) (by kernel_rfl) (by kernel_rfl) (by kernel_rfl) (fun _ _ _ h => h) (fun h => absurd (h.symm.trans (by kernel_rfl : _ = true)) (by decide)) ?_
      simp only [Act.put, List.setIfInBounds_toArray, List.set_cons_zero, List.set_cons_succ]
      refine wpAnyB_skip (i := 15) (some 24) (Op.load 22 (Operand.tmp 23)) 22 (some (9, true)) ⟨_, rfl, rfl, rfl, rfl, rfl⟩ rfl (by kernel_rfl) (by kernel_rfl) (by kernel_rfl) (by kernel_rfl) (fun _ _ _ h => h) (fun h => absurd (h.symm.trans (by kernel_rfl : _ = true)) (by decide)) ?_
      simp only [Act.put, List.setIfInBounds_toArray, List.set_cons_zero, List.set_cons_succ]
      refine wpAnyB_skip (i := 16) (some 25) (Op.load 24 (Operand.tmp 4)) 24 (some (9, true)) ⟨_, rfl, rfl, rfl, rfl, rfl⟩ rfl (by kernel_rfl) (by kernel_rfl) (by kernel_rfl) (by kernel_rfl) (fun _ _ _ h => h) (fun h => absurd (h.symm.trans (by kernel_rfl : _ = true)) (by decide)) ?_
      simp only [Act.put, List.setIfInBounds_toArray, List.set_cons_zero, List.set_cons_succ]
      refine wpAnyB_skip (i := 17) (some 26) (Op.move (Operand.tmp 1)) 22 (some (9, true)) ⟨_, rfl, rfl, rfl, rfl, rfl⟩ rfl (by kernel_rfl) (by kernel_rfl) (by kernel_rfl) (by kernel_rfl) (fun _ _ _ h => h) (fun h => absurd (h.symm.trans (by kernel_rfl : _ = true)) (by decide)) ?_
      simp only [Act.put, List.setIfInBounds_toArray, List.set_cons_zero, List.set_cons_succ]
      refine wpAnyB_skip (i := 18) (some 27) (Op.fieldAddr 27 (Operand.tmp 7) 0) 0 (some (9, true)) ⟨_, rfl, rfl, rfl, rfl, rfl⟩ rfl (by kernel_rfl) (by kernel_rfl) (by kernel_rfl) (by kernel_rfl) (fun _ _ _ h => h) (fun h => absurd (h.symm.trans (by kernel_rfl : _ = true)) (by decide)) ?_
      simp only [Act.put, List.setIfInBounds_toArray, List.set_cons_zero, List.set_cons_succ]
      refine wpAnyB_skip (i := 19) (some 28) (Op.load 22 (Operand.tmp 27)) 22 (some (9, true)) ⟨_, rfl, rfl, rfl, rfl, rfl⟩ rfl (by kernel_rfl) (by kernel_rfl) (by kernel_rfl) (by kernel_rfl) (fun _ _ _ h => h) (fun h => absurd (h.symm.trans (by kernel_rfl : _ = true)) (by decide)) ?_
      simp only [Act.put, List.setIfInBounds_toArray, List.set_cons_zero, List.set_cons_succ]
      refine wpAnyB_skip (i := 20) (some 29) (Op.buildSlice 52 2 #[(0, Operand.tmp 26), (1, Operand.tmp 28)]) 52 (some (9, true)) ⟨_, rfl, rfl, rfl, rfl, rfl⟩ rfl (by kernel_rfl) (by kernel_rfl) (by kernel_rfl) (by kernel_rfl) (fun _ _ _ h => h) (fun h => absurd (h.symm.trans (by kernel_rfl : _ = true)) (by decide)) ?_
      simp only [Act.put, List.setIfInBounds_toArray, List.set_cons_zero, List.set_cons_succ]
      refine wpAnyB_skip (i := 21) (some 30) (Op.move (Operand.tmp 2)) 25 (some (9, true)) ⟨_, rfl, rfl, rfl, rfl, rfl⟩ rfl (by kernel_rfl) (by kernel_rfl) (by kernel_rfl) (by kernel_rfl) (fun _ _ _ h => h) (fun h => absurd (h.symm.trans (by kernel_rfl : _ = true)) (by decide)) ?_
      simp only [Act.put, List.setIfInBounds_toArray, List.set_cons_zero, List.set_cons_succ]
      refine wpAnyB_skip (i := 22) (some 31) (Op.call { callee := Callee.value (Operand.func 26), args := #[Operand.tmp 25, Operand.tmp 29, Operand.tmp 30], argTypes := #[24, 52, 25] }) 22 (some (9, true)) ⟨_, rfl, rfl, rfl, rfl, rfl⟩ rfl (by kernel_rfl) (by kernel_rfl) (by kernel_rfl) (by kernel_rfl) (fun _ _ _ h => h) (fun h => absurd (h.symm.trans (by kernel_rfl : _ = true)) (by decide)) ?_
      simp only [Act.put, List.setIfInBounds_toArray, List.set_cons_zero, List.set_cons_succ]
      refine wpAnyB_skip (i := 23) (some 32) (Op.fieldAddr 27 (Operand.tmp 7) 1) 0 (some (9, true)) ⟨_, rfl, rfl, rfl, rfl, rfl⟩ rfl (by kernel_rfl) (by kernel_rfl) (by kernel_rfl) (by kernel_rfl) (fun _ _ _ h => h) (fun h => absurd (h.symm.trans (by kernel_rfl : _ = true)) (by decide)) ?_
      simp only [Act.put, List.setIfInBounds_toArray, List.set_cons_zero, List.set_cons_succ]
      refine wpAnyB_skip (i := 24) (some 33) (Op.load 22 (Operand.tmp 32)) 22 (some (9, true)) ⟨_, rfl, rfl, rfl, rfl, rfl⟩ rfl (by kernel_rfl) (by kernel_rfl) (by kernel_rfl) (by kernel_rfl) (fun _ _ _ h => h) (fun h => absurd (h.symm.trans (by kernel_rfl : _ = true)) (by decide)) ?_
      simp only [Act.put, List.setIfInBounds_toArray, List.set_cons_zero, List.set_cons_succ]
      refine wpAnyB_skip (i := 25) (some 34) (Op.call { callee := Callee.value (Operand.func 55), args := #[Operand.tmp 19, Operand.tmp 21, Operand.tmp 22, Operand.tmp 24, Operand.tmp 31, Operand.tmp 33], argTypes := #[24, 22, 22, 22, 22, 22] }) 4 (some (9, true)) ⟨_, rfl, rfl, rfl, rfl, rfl⟩ rfl (by kernel_rfl) (by kernel_rfl) (by kernel_rfl) (by kernel_rfl) (fun _ _ _ h => h) (fun h => absurd (h.symm.trans (by kernel_rfl : _ = true)) (by decide)) ?_
      simp only [Act.put, List.setIfInBounds_toArray, List.set_cons_zero, List.set_cons_succ]
      refine wpAnyB_takeP (i := 26) (some 35) (Op.pick (Operand.tmp 18) (Operand.tmp 34) (Operand.const (Value.bool false))) 4 (v := ?_) ⟨_, rfl, rfl, rfl, rfl, rfl⟩ (by kernel_rfl) (by kernel_rfl) (by kernel_rfl) (by kernel_rfl) (fun _ _ _ h => h) (fun h => absurd (h.symm.trans (by kernel_rfl : _ = true)) (by decide)) (fun w' => ?_) ?_
      rotate_left
      · unfold bareOp
        go_simp
        try with_reducible rfl
      simp only [Act.put, List.setIfInBounds_toArray, List.set_cons_zero, List.set_cons_succ]
      refine wpAnyB_takeP (i := 27) (some 8) (Op.assign (Operand.tmp 35)) 4 (v := ?_) ⟨_, rfl, rfl, rfl, rfl, rfl⟩ (by kernel_rfl) (by kernel_rfl) (by kernel_rfl) (by kernel_rfl) (fun _ _ _ h => h) (fun h => absurd (h.symm.trans (by kernel_rfl : _ = true)) (by decide)) (fun w' => ?_) ?_
      rotate_left
      · unfold bareOp
        go_simp
        try with_reducible rfl
      simp only [Act.put, List.setIfInBounds_toArray, List.set_cons_zero, List.set_cons_succ]
      refine wpAnyB_done (by kernel_rfl) ?_ _
      go_wp2_with fail
      go_ret
      exact ⟨ret_bool HZ.out, HBW.out⟩
    case pos =>
      have HMy := Lib.hid hMy
      have HMR := Lib.hid hMR
      have HZ := Lib.hid (show v = true ↔ powm G S P = R * powm y h_ P % P from HV.out.trans ⟨fun h => by rw [← HCC.out]; exact h.2.2, fun h => ⟨HMy.out, HMR.out, by rw [HCC.out]; exact h⟩⟩)
      clear hMy hMR
      have F_g := Lib.hid (show Boxed ((w.alloc (.cells #[.int .u64 P, .int .u64 Q, .int .u64 G] 24)).alloc (.cells #[.int .u64 R, .int .u64 S] 27)) (w.heap.size) P Q G from (Boxed.at _ P Q G _ (w.heap.size) (by simp)).alloc _)
      have F_s := Lib.hid (show Pair ((w.alloc (.cells #[.int .u64 P, .int .u64 Q, .int .u64 G] 24)).alloc (.cells #[.int .u64 R, .int .u64 S] 27)) (w.heap.size + 1) R S from Pair.at _ R S _ (w.heap.size + 1) (by simp))
      have HBW := Lib.hid (show Below w.heap.size w ((w.alloc (.cells #[.int .u64 P, .int .u64 Q, .int .u64 G] 24)).alloc (.cells #[.int .u64 R, .int .u64 S] 27)) from ((Below.refl _ _).alloc (by simp <;> omega) _).alloc (by simp <;> omega) _)
      go_enter Tryd.func34, Tryd.ntmps34
      go_wp2_with fail
      replace F_g := Lib.hid F_g.out.drew
      replace F_s := Lib.hid F_s.out.drew
      replace HBW := Lib.hid HBW.out.drew
      have hS := And.intro F_g.out.s F_s.out.s
      refine wp_region_stage 25 (fun w' => SBox w' w.heap.size P Q G ∧ SPair w' (w.heap.size + 1) R S) (by kernel_rfl) ?_
      refine wpAnyB_take (i := 0) (some 9) (Op.load 24 (Operand.tmp 4)) 24 (v := ?_) ⟨_, rfl, rfl, rfl, rfl, rfl⟩ (by kernel_rfl) (by kernel_rfl) (by kernel_rfl) [2, 3, 4, 5, 6, 7, 8, 9, 10, 11, 12, 13, 14, 15, 16, 17, 18, 19, 20, 21, 22, 23, 24, 25] (by kernel_rfl) (fun _ _ _ h => h) hS (fun w' hSw => ?_) ?_
      rotate_left
      · obtain ⟨⟨s0, s1, s2⟩, ⟨s3, s4⟩⟩ := hSw
        unfold bareOp
        go_simp
        try with_reducible rfl
      simp only [Act.put, List.setIfInBounds_toArray, List.set_cons_zero, List.set_cons_succ]
      refine wpAnyB_takeP (i := 1) (some 10) (Op.move (Operand.tmp 1)) 22 (v := ?_) ⟨_, rfl, rfl, rfl, rfl, rfl⟩ (by kernel_rfl) (by kernel_rfl) (by kernel_rfl) (by kernel_rfl) (fun _ _ _ h => h) (fun _ => hS) (fun w' => ?_) ?_
      rotate_left
      · unfold bareOp
        go_simp
        try with_reducible rfl
      simp only [Act.put, List.setIfInBounds_toArray, List.set_cons_zero, List.set_cons_succ]
      refine wpAnyB_only (i := 2) (some 11) (Op.call { callee := Callee.value (Operand.func 54), args := #[Operand.tmp 9, Operand.tmp 10], argTypes := #[24, 22] }) 4 ⟨_, rfl, rfl, rfl, rfl, rfl⟩ (by kernel_rfl) (fun K hK => ?_)
      unfold bareOp
      go_wp2_with (go_at_call 54; refine (rIn_gen (r := true) Q0 _ HH.out y0 yP ⟨fun _ => HMy.out, fun _ => rfl⟩).mono ?_; rintro e w1 ⟨rfl, hb1⟩)
      replace F_g := Lib.hid (F_g.out.keep hb1)
      replace F_s := Lib.hid (F_s.out.keep hb1)
      replace HBW := Lib.hid (HBW.out.trans (hb1.mono HBW.out.size))
      replace hS := And.intro F_g.out.s F_s.out.s
      clear hb1
      refine hK.out _ _ (fun _ => hS) ?_
      clear hK K
      try simp only [Act.put, List.setIfInBounds_toArray, List.set_cons_zero, List.set_cons_succ]
      refine wpAnyB_takeP (i := 3) (some 12) (Op.move (Operand.tmp 11)) 4 (v := ?_) ⟨_, rfl, rfl, rfl, rfl, rfl⟩ (by kernel_rfl) (by kernel_rfl) (by kernel_rfl) (by kernel_rfl) (fun _ _ _ h => h) (fun _ => hS) (fun w' => ?_) ?_
      rotate_left
      · unfold bareOp
        go_simp
        try with_reducible rfl
      simp only [Act.put, List.setIfInBounds_toArray, List.set_cons_zero, List.set_cons_succ]
      refine wpAnyB_takeG (i := 4) (some 13) (Op.load 24 (Operand.tmp 4)) 24 (some (3, true)) (v := ?_) ⟨_, rfl, rfl, rfl, rfl, rfl⟩ rfl (by kernel_rfl) (by kernel_rfl) (by kernel_rfl) [7, 8, 9, 10, 11, 12, 13, 14, 15, 16, 17, 18, 19, 20, 21, 22, 23, 24, 25] (by kernel_rfl) (fun _ _ _ h => h) hS (fun w' hSw => ?_) ?_
      rotate_left
      · obtain ⟨⟨s0, s1, s2⟩, ⟨s3, s4⟩⟩ := hSw
        unfold bareOp
        go_simp
        try with_reducible rfl
      simp only [Act.put, List.setIfInBounds_toArray, List.set_cons_zero, List.set_cons_succ]
      refine wpAnyB_takePG (i := 5) (some 14) (Op.fieldAddr 27 (Operand.tmp 7) 0) 0 (some (3, true)) (v := ?_) ⟨_, rfl, rfl, rfl, rfl, rfl⟩ rfl (by kernel_rfl) (by kernel_rfl) (by kernel_rfl) (by kernel_rfl) (fun _ _ _ h => h) (fun _ => hS) (fun w' => ?_) ?_
      rotate_left
      · unfold bareOp
        go_simp
        try with_reducible rfl
      simp only [Act.put, List.setIfInBounds_toArray, List.set_cons_zero, List.set_cons_succ]
      refine wpAnyB_takeG (i := 6) (some 15) (Op.load 22 (Operand.tmp 14)) 22 (some (3, true)) (v := ?_) ⟨_, rfl, rfl, rfl, rfl, rfl⟩ rfl (by kernel_rfl) (by kernel_rfl) (by kernel_rfl) [7, 8, 9, 10, 11, 12, 13, 14, 15, 16, 17, 18, 19, 20, 21, 22, 23, 24, 25] (by kernel_rfl) (fun _ _ _ h => h) hS (fun w' hSw => ?_) ?_
      rotate_left
      · obtain ⟨⟨s0, s1, s2⟩, ⟨s3, s4⟩⟩ := hSw
        unfold bareOp
        go_simp
        try with_reducible rfl
      simp only [Act.put, List.setIfInBounds_toArray, List.set_cons_zero, List.set_cons_succ]
      refine wpAnyB_onlyG (i := 7) (some 16) (Op.call { callee := Callee.value (Operand.func 54), args := #[Operand.tmp 13, Operand.tmp 15], argTypes := #[24, 22] }) 4 (some (3, true)) ⟨_, rfl, rfl, rfl, rfl, rfl⟩ (by kernel_rfl) rfl (fun K hK => ?_)
      unfold bareOp
      go_wp2_with (go_at_call 54; refine (rIn_gen (r := true) Q0 _ HH.out R0 RP ⟨fun _ => HMR.out, fun _ => rfl⟩).mono ?_; rintro e w2 ⟨rfl, hb2⟩)
      replace F_g := Lib.hid (F_g.out.keep hb2)
      replace F_s := Lib.hid (F_s.out.keep hb2)
      replace HBW := Lib.hid (HBW.out.trans (hb2.mono HBW.out.size))
      replace hS := And.intro F_g.out.s F_s.out.s
      clear hb2
      refine hK.out _ _ (fun _ => hS) ?_
      clear hK K
      try simp only [Act.put, List.setIfInBounds_toArray, List.set_cons_zero, List.set_cons_succ]
      refine wpAnyB_takeP (i := 8) (some 17) (Op.pick (Operand.tmp 12) (Operand.tmp 16) (Operand.const (Value.bool false))) 4 (v := ?_) ⟨_, rfl, rfl, rfl, rfl, rfl⟩ (by kernel_rfl) (by kernel_rfl) (by kernel_rfl) (by kernel_rfl) (fun _ _ _ h => h) (fun _ => hS) (fun w' => ?_) ?_
      rotate_left
      · unfold bareOp
        go_simp
        try with_reducible rfl
      simp only [Act.put, List.setIfInBounds_toArray, List.set_cons_zero, List.set_cons_succ]
      refine wpAnyB_takeP (i := 9) (some 18) (Op.move (Operand.tmp 17)) 4 (v := ?_) ⟨_, rfl, rfl, rfl, rfl, rfl⟩ (by kernel_rfl) (by kernel_rfl) (by kernel_rfl) (by kernel_rfl) (fun _ _ _ h => h) (fun _ => hS) (fun w' => ?_) ?_
      rotate_left
      · unfold bareOp
        go_simp
        try with_reducible rfl
      simp only [Act.put, List.setIfInBounds_toArray, List.set_cons_zero, List.set_cons_succ]
      refine wpAnyB_takeG (i := 10) (some 19) (Op.load 24 (Operand.tmp 4)) 24 (some (9, true)) (v := ?_) ⟨_, rfl, rfl, rfl, rfl, rfl⟩ rfl (by kernel_rfl) (by kernel_rfl) (by kernel_rfl) [25] (by kernel_rfl) (fun _ _ _ h => h) hS (fun w' hSw => ?_) ?_
      rotate_left
      · obtain ⟨⟨s0, s1, s2⟩, ⟨s3, s4⟩⟩ := hSw
        unfold bareOp
        go_simp
        try with_reducible rfl
      simp only [Act.put, List.setIfInBounds_toArray, List.set_cons_zero, List.set_cons_succ]
      refine wpAnyB_takePG (i := 11) (some 20) (Op.fieldAddr 24 (Operand.tmp 4) 2) 0 (some (9, true)) (v := ?_) ⟨_, rfl, rfl, rfl, rfl, rfl⟩ rfl (by kernel_rfl) (by kernel_rfl) (by kernel_rfl) (by kernel_rfl) (fun _ _ _ h => h) (fun _ => hS) (fun w' => ?_) ?_
      rotate_left
      · unfold bareOp
        go_simp
        try with_reducible rfl
      simp only [Act.put, List.setIfInBounds_toArray, List.set_cons_zero, List.set_cons_succ]
      refine wpAnyB_takeG (i := 12) (some 21) (Op.load 22 (Operand.tmp 20)) 22 (some (9, true)) (v := ?_) ⟨_, rfl, rfl, rfl, rfl, rfl⟩ rfl (by kernel_rfl) (by kernel_rfl) (by kernel_rfl) [25] (by kernel_rfl) (fun _ _ _ h => h) hS (fun w' hSw => ?_) ?_
      rotate_left
      · obtain ⟨⟨s0, s1, s2⟩, ⟨s3, s4⟩⟩ := hSw
        unfold bareOp
        go_simp
        try with_reducible rfl
      simp only [Act.put, List.setIfInBounds_toArray, List.set_cons_zero, List.set_cons_succ]
      refine wpAnyB_takePG (i := 13) (some 22) (Op.move (Operand.tmp 1)) 22 (some (9, true)) (v := ?_) ⟨_, rfl, rfl, rfl, rfl, rfl⟩ rfl (by kernel_rfl) (by kernel_rfl) (by kernel_rfl) (by kernel_rfl) (fun _ _ _ h => h) (fun _ => hS) (fun w' => ?_) ?_
      rotate_left
      · unfold bareOp
        go_simp
        try with_reducible rfl
      simp only [Act.put, List.setIfInBounds_toArray, List.set_cons_zero, List.set_cons_succ]
      refine wpAnyB_takePG (i := 14) (some 23) (Op.fieldAddr 27 (Operand.tmp 7) 0) 0 (some (9, true)) (v := ?_) ⟨_, rfl, rfl, rfl, rfl, rfl⟩ rfl (by kernel_rfl) (by kernel_rfl) (by kernel_rfl) (by kernel_rfl) (fun _ _ _ h => h) (fun _ => hS) (fun w' => ?_) ?_
      rotate_left
      · unfold bareOp
        go_simp
        try with_reducible rfl
      simp only [Act.put, List.setIfInBounds_toArray, List.set_cons_zero, List.set_cons_succ]
      refine wpAnyB_takeG (i := 15) (some 24) (Op.load 22 (Operand.tmp 23)) 22 (some (9, true)) (v := ?_) ⟨_, rfl, rfl, rfl, rfl, rfl⟩ rfl (by kernel_rfl) (by kernel_rfl) (by kernel_rfl) [25] (by kernel_rfl) (fun _ _ _ h => h) hS (fun w' hSw => ?_) ?_
      rotate_left
      · obtain ⟨⟨s0, s1, s2⟩, ⟨s3, s4⟩⟩ := hSw
        unfold bareOp
        go_simp
        try with_reducible rfl
      simp only [Act.put, List.setIfInBounds_toArray, List.set_cons_zero, List.set_cons_succ]
      refine wpAnyB_takeG (i := 16) (some 25) (Op.load 24 (Operand.tmp 4)) 24 (some (9, true)) (v := ?_) ⟨_, rfl, rfl, rfl, rfl, rfl⟩ rfl (by kernel_rfl) (by kernel_rfl) (by kernel_rfl) [22, 25] (by kernel_rfl) (fun _ _ _ h => h) hS (fun w' hSw => ?_) ?_
      rotate_left
      · obtain ⟨⟨s0, s1, s2⟩, ⟨s3, s4⟩⟩ := hSw
        unfold bareOp
        go_simp
        try with_reducible rfl
      simp only [Act.put, List.setIfInBounds_toArray, List.set_cons_zero, List.set_cons_succ]
      refine wpAnyB_takePG (i := 17) (some 26) (Op.move (Operand.tmp 1)) 22 (some (9, true)) (v := ?_) ⟨_, rfl, rfl, rfl, rfl, rfl⟩ rfl (by kernel_rfl) (by kernel_rfl) (by kernel_rfl) (by kernel_rfl) (fun _ _ _ h => h) (fun _ => hS) (fun w' => ?_) ?_
      rotate_left
      · unfold bareOp
        go_simp
        try with_reducible rfl
      simp only [Act.put, List.setIfInBounds_toArray, List.set_cons_zero, List.set_cons_succ]
      refine wpAnyB_takePG (i := 18) (some 27) (Op.fieldAddr 27 (Operand.tmp 7) 0) 0 (some (9, true)) (v := ?_) ⟨_, rfl, rfl, rfl, rfl, rfl⟩ rfl (by kernel_rfl) (by kernel_rfl) (by kernel_rfl) (by kernel_rfl) (fun _ _ _ h => h) (fun _ => hS) (fun w' => ?_) ?_
      rotate_left
      · unfold bareOp
        go_simp
        try with_reducible rfl
      simp only [Act.put, List.setIfInBounds_toArray, List.set_cons_zero, List.set_cons_succ]
      refine wpAnyB_takeG (i := 19) (some 28) (Op.load 22 (Operand.tmp 27)) 22 (some (9, true)) (v := ?_) ⟨_, rfl, rfl, rfl, rfl, rfl⟩ rfl (by kernel_rfl) (by kernel_rfl) (by kernel_rfl) [20, 22, 25] (by kernel_rfl) (fun _ _ _ h => h) hS (fun w' hSw => ?_) ?_
      rotate_left
      · obtain ⟨⟨s0, s1, s2⟩, ⟨s3, s4⟩⟩ := hSw
        unfold bareOp
        go_simp
        try with_reducible rfl
      simp only [Act.put, List.setIfInBounds_toArray, List.set_cons_zero, List.set_cons_succ]
      refine wpAnyB_takePG (i := 21) (some 30) (Op.move (Operand.tmp 2)) 25 (some (9, true)) (v := ?_) ⟨_, rfl, rfl, rfl, rfl, rfl⟩ rfl (by kernel_rfl) (by kernel_rfl) (by kernel_rfl) (by kernel_rfl) (fun _ _ _ h => h) (fun _ => hS) (fun w' => ?_) ?_
      rotate_left
      · unfold bareOp
        go_simp
        try with_reducible rfl
      simp only [Act.put, List.setIfInBounds_toArray, List.set_cons_zero, List.set_cons_succ]
      refine wpAnyB_takePG (i := 23) (some 32) (Op.fieldAddr 27 (Operand.tmp 7) 1) 0 (some (9, true)) (v := ?_) ⟨_, rfl, rfl, rfl, rfl, rfl⟩ rfl (by kernel_rfl) (by kernel_rfl) (by kernel_rfl) (by kernel_rfl) (fun _ _ _ h => h) (fun _ => hS) (fun w' => ?_) ?_
      rotate_left
      · unfold bareOp
        go_simp
        try with_reducible rfl
      simp only [Act.put, List.setIfInBounds_toArray, List.set_cons_zero, List.set_cons_succ]
      refine wpAnyB_takeG (i := 24) (some 33) (Op.load 22 (Operand.tmp 32)) 22 (some (9, true)) (v := ?_) ⟨_, rfl, rfl, rfl, rfl, rfl⟩ rfl (by kernel_rfl) (by kernel_rfl) (by kernel_rfl) [25] (by kernel_rfl) (fun _ _ _ h => h) hS (fun w' hSw => ?_) ?_
      rotate_left
      · obtain ⟨⟨s0, s1, s2⟩, ⟨s3, s4⟩⟩ := hSw
        unfold bareOp
        go_simp
        try with_reducible rfl
      simp only [Act.put, List.setIfInBounds_toArray, List.set_cons_zero, List.set_cons_succ]
      refine wpAnyB_onlyG (i := 20) (some 29) (Op.buildSlice 52 2 #[(0, Operand.tmp 26), (1, Operand.tmp 28)]) 52 (some (9, true)) ⟨_, rfl, rfl, rfl, rfl, rfl⟩ (by kernel_rfl) rfl (fun K hK => ?_)
      unfold bareOp
      go_wp2_with fail
      have F_ns := Lib.hid (ShL.laid w2 [y, R] _ 22 _ 2 2 rfl rfl rfl)
      replace F_g := Lib.hid (F_g.out.alloc (.cells #[.int .u64 y, .int .u64 R] 22))
      replace F_s := Lib.hid (F_s.out.alloc (.cells #[.int .u64 y, .int .u64 R] 22))
      replace HBW := Lib.hid (HBW.out.alloc HBW.out.size (.cells #[.int .u64 y, .int .u64 R] 22))
      replace hS := And.intro F_g.out.s F_s.out.s
      refine hK.out _ _ (fun _ => hS) ?_
      clear hK K
      try simp only [Act.put, List.setIfInBounds_toArray, List.set_cons_zero, List.set_cons_succ]
      refine wpAnyB_onlyG (i := 22) (some 31) (Op.call { callee := Callee.value (Operand.func 26), args := #[Operand.tmp 25, Operand.tmp 29, Operand.tmp 30], argTypes := #[24, 52, 25] }) 22 (some (9, true)) ⟨_, rfl, rfl, rfl, rfl, rfl⟩ (by kernel_rfl) rfl (fun K hK => ?_)
      unfold bareOp
      go_wp2_with (go_at_call 26; refine (rOf31_any _ (HT.out.keep HBW.out) HH.out F_ns.out HUS.out (by simp) (by simp) (by omega) HCC.out).mono ?_; rintro e w3 ⟨rfl, hb3⟩)
      replace F_g := Lib.hid (F_g.out.keep hb3)
      replace F_s := Lib.hid (F_s.out.keep hb3)
      replace HBW := Lib.hid (HBW.out.trans (hb3.mono HBW.out.size))
      replace hS := And.intro F_g.out.s F_s.out.s
      clear hb3
      refine hK.out _ _ (fun _ => hS) ?_
      clear hK K
      try simp only [Act.put, List.setIfInBounds_toArray, List.set_cons_zero, List.set_cons_succ]
      refine wpAnyB_onlyG (i := 25) (some 34) (Op.call { callee := Callee.value (Operand.func 55), args := #[Operand.tmp 19, Operand.tmp 21, Operand.tmp 22, Operand.tmp 24, Operand.tmp 31, Operand.tmp 33], argTypes := #[24, 22, 22, 22, 22, 22] }) 4 (some (9, true)) ⟨_, rfl, rfl, rfl, rfl, rfl⟩ (by kernel_rfl) rfl (fun K hK => ?_)
      unfold bareOp
      go_wp2_with (go_at_call 55; refine (reven_any (v := v) _ hP1 PM hG gP y0 yP R0 RP UH.out US.out HZ.out).mono ?_; rintro e w4 ⟨rfl, hb4⟩)
      replace F_g := Lib.hid (F_g.out.keep hb4)
      replace F_s := Lib.hid (F_s.out.keep hb4)
      replace HBW := Lib.hid (HBW.out.trans (hb4.mono HBW.out.size))
      replace hS := And.intro F_g.out.s F_s.out.s
      clear hb4
      refine hK.out _ _ (fun h => absurd (h.symm.trans (by kernel_rfl : _ = true)) (by decide)) ?_
      clear hK K
      try simp only [Act.put, List.setIfInBounds_toArray, List.set_cons_zero, List.set_cons_succ]
      refine wpAnyB_takeP (i := 26) (some 35) (Op.pick (Operand.tmp 18) (Operand.tmp 34) (Operand.const (Value.bool false))) 4 (v := ?_) ⟨_, rfl, rfl, rfl, rfl, rfl⟩ (by kernel_rfl) (by kernel_rfl) (by kernel_rfl) (by kernel_rfl) (fun _ _ _ h => h) (fun h => absurd (h.symm.trans (by kernel_rfl : _ = true)) (by decide)) (fun w' => ?_) ?_
      rotate_left
      · unfold bareOp
        go_simp
        try with_reducible rfl
      simp only [Act.put, List.setIfInBounds_toArray, List.set_cons_zero, List.set_cons_succ]
      refine wpAnyB_takeP (i := 27) (some 8) (Op.assign (Operand.tmp 35)) 4 (v := ?_) ⟨_, rfl, rfl, rfl, rfl, rfl⟩ (by kernel_rfl) (by kernel_rfl) (by kernel_rfl) (by kernel_rfl) (fun _ _ _ h => h) (fun h => absurd (h.symm.trans (by kernel_rfl : _ = true)) (by decide)) (fun w' => ?_) ?_
      rotate_left
      · unfold bareOp
        go_simp
        try with_reducible rfl
      simp only [Act.put, List.setIfInBounds_toArray, List.set_cons_zero, List.set_cons_succ]
      refine wpAnyB_done (by kernel_rfl) ?_ _
      go_wp2_with fail
      go_ret
      exact ⟨rfl, HBW.out⟩

set_option maxRecDepth 100000 in
set_option maxHeartbeats 4000000 in
theorem rverify_any {P Q G y R S e' : Int} {v : Bool} {tx : Option Addr} {n cp : Nat} {T : List Int} (w : World) (hT : Txt w tx n T) (hP : 0 ≤ P) (hQ : 0 ≤ Q) (hG : 0 ≤ G) (uy : U64 y) (uR : U64 R) (S0 : 0 ≤ S) (hn : n ≤ 8100) (h : RetB (lgS (askS P Q G [S] [y, R]) n) (vfP P Q G y R S T) v e') :
    Calls Tryd.prog 13 #[.agg #[.int .u64 P, .int .u64 Q, .int .u64 G], .int .u64 y, .slice tx n cp, .agg #[.int .u64 R, .int .u64 S]] w fun e w' => e = .returned (.tuple #[.bool v, .int .i64 e']) ∧ Below w.heap.size w w' := by
  have HT := Lib.hid hT
  clear hT
  rcases h with ⟨h, hv, rfl⟩ | ⟨h, rfl, hc⟩
  · obtain ⟨h, hn8⟩ := lgS_zero h
    have hd : decide ((8000 : Int) < (n : Int)) = false := by simp; omega
    have hdn : decide (8000 < n) = false := by simp; omega
    obtain ⟨hH, he, hnn⟩ := askS_zero h
    have SQ := he S (by simp)
    have yP := hnn y (by simp)
    have RP := hnn R (by simp)
    have y0 := uy.1
    have R0 := uR.1
    have HR := Lib.hid h
    have HV := Lib.hid hv
    have UY := Lib.hid uy
    have UR := Lib.hid uR
    clear h hv he hnn uy uR
    obtain ⟨p5, p3, hQ', pq, g2, gP⟩ := id hH
    have hP1 : 1 ≤ P := by omega
    have hGM : G < 2147483648 := by omega
    have q3 : Q < 1073741824 := by omega
    have q2 : 2 ≤ Q := by omega
    have HH := Lib.hid hH
    clear hH pq
    have F_g := Lib.hid (show Boxed ((((w.alloc (.cells #[.int .u64 P, .int .u64 Q, .int .u64 G] 24)).alloc (.cells #[.int .u64 R, .int .u64 S] 27)).alloc (.cells #[.int .u64 S] 22)).alloc (.cells #[.int .u64 y, .int .u64 R] 22)) (w.heap.size) P Q G from (((Boxed.at _ P Q G _ (w.heap.size) (by simp)).alloc _).alloc _).alloc _)
    have F_s := Lib.hid (show Pair ((((w.alloc (.cells #[.int .u64 P, .int .u64 Q, .int .u64 G] 24)).alloc (.cells #[.int .u64 R, .int .u64 S] 27)).alloc (.cells #[.int .u64 S] 22)).alloc (.cells #[.int .u64 y, .int .u64 R] 22)) (w.heap.size + 1) R S from ((Pair.at _ R S _ (w.heap.size + 1) (by simp)).alloc _).alloc _)
    have F_es := Lib.hid (show ShL ((((w.alloc (.cells #[.int .u64 P, .int .u64 Q, .int .u64 G] 24)).alloc (.cells #[.int .u64 R, .int .u64 S] 27)).alloc (.cells #[.int .u64 S] 22)).alloc (.cells #[.int .u64 y, .int .u64 R] 22)) (some ⟨w.heap.size + 1 + 1, 0, none⟩) 1 1 [S] from (ShL.laid _ [S] _ _ (w.heap.size + 1 + 1) _ _ (by simp) rfl rfl).alloc _)
    have F_ns := Lib.hid (show ShL ((((w.alloc (.cells #[.int .u64 P, .int .u64 Q, .int .u64 G] 24)).alloc (.cells #[.int .u64 R, .int .u64 S] 27)).alloc (.cells #[.int .u64 S] 22)).alloc (.cells #[.int .u64 y, .int .u64 R] 22)) (some ⟨w.heap.size + 1 + 1 + 1, 0, none⟩) 2 2 [y, R] from ShL.laid _ [y, R] _ _ (w.heap.size + 1 + 1 + 1) _ _ (by simp) rfl rfl)
    have HBW := Lib.hid (show Below w.heap.size w ((((w.alloc (.cells #[.int .u64 P, .int .u64 Q, .int .u64 G] 24)).alloc (.cells #[.int .u64 R, .int .u64 S] 27)).alloc (.cells #[.int .u64 S] 22)).alloc (.cells #[.int .u64 y, .int .u64 R] 22)) from ((((Below.refl _ _).alloc (by simp <;> omega) _).alloc (by simp <;> omega) _).alloc (by simp <;> omega) _).alloc (by simp <;> omega) _)
    go_enter Tryd.func13, Tryd.ntmps13
    obtain ⟨x0a, x0b, x0c, -⟩ := id F_g.out
    obtain ⟨x1a, x1b, x1c, x1d, -⟩ := id F_s.out
    go_wp2_with fail
    clear x0a x0b x0c x1a x1b x1c x1d
    refine (rAsked_any _ hP hQ hG F_es.out F_ns.out (by simp) (by simp) HR.out).mono ?_
    rintro e w1 ⟨rfl, hb1⟩
    replace F_g := Lib.hid (F_g.out.keep hb1)
    replace F_s := Lib.hid (F_s.out.keep hb1)
    replace F_es := Lib.hid (F_es.out.keep hb1)
    replace F_ns := Lib.hid (F_ns.out.keep hb1)
    replace HBW := Lib.hid (HBW.out.trans (hb1.mono HBW.out.size))
    clear hb1
    clear F_es
    clear F_ns
    obtain ⟨x0a, x0b, x0c, -⟩ := id F_g.out
    obtain ⟨x1a, x1b, x1c, x1d, -⟩ := id F_s.out
    go_wp2_with fail
    clear x0a x0b x0c x1a x1b x1c x1d
    refine (rRight_any (v := v) _ (HT.out.keep HBW.out) HH.out y0 yP R0 RP S0 SQ hn8 HV.out).mono ?_
    rintro e w2 ⟨rfl, hb2⟩
    replace F_g := Lib.hid (F_g.out.keep hb2)
    replace F_s := Lib.hid (F_s.out.keep hb2)
    replace HBW := Lib.hid (HBW.out.trans (hb2.mono HBW.out.size))
    clear hb2
    obtain ⟨x0a, x0b, x0c, -⟩ := id F_g.out
    obtain ⟨x1a, x1b, x1c, x1d, -⟩ := id F_s.out
    go_wp2_with fail
    go_ret2
    exact ⟨rfl, HBW.out⟩
  · by_cases ha : askS P Q G [S] [y, R] = 0
    · have hn8 := lgS_long ha h
      obtain rfl : e' = 4 := by rw [hc]; exact lgS_four ha hn8
      have HR := Lib.hid ha
      have hd : decide ((8000 : Int) < (n : Int)) = true := by simp; omega
      have hdn : decide (8000 < n) = true := by simp; omega
      have UY := Lib.hid uy
      have UR := Lib.hid uR
      clear h hc ha uy uR
      have F_g := Lib.hid (show Boxed ((((w.alloc (.cells #[.int .u64 P, .int .u64 Q, .int .u64 G] 24)).alloc (.cells #[.int .u64 R, .int .u64 S] 27)).alloc (.cells #[.int .u64 S] 22)).alloc (.cells #[.int .u64 y, .int .u64 R] 22)) (w.heap.size) P Q G from (((Boxed.at _ P Q G _ (w.heap.size) (by simp)).alloc _).alloc _).alloc _)
      have F_s := Lib.hid (show Pair ((((w.alloc (.cells #[.int .u64 P, .int .u64 Q, .int .u64 G] 24)).alloc (.cells #[.int .u64 R, .int .u64 S] 27)).alloc (.cells #[.int .u64 S] 22)).alloc (.cells #[.int .u64 y, .int .u64 R] 22)) (w.heap.size + 1) R S from ((Pair.at _ R S _ (w.heap.size + 1) (by simp)).alloc _).alloc _)
      have F_es := Lib.hid (show ShL ((((w.alloc (.cells #[.int .u64 P, .int .u64 Q, .int .u64 G] 24)).alloc (.cells #[.int .u64 R, .int .u64 S] 27)).alloc (.cells #[.int .u64 S] 22)).alloc (.cells #[.int .u64 y, .int .u64 R] 22)) (some ⟨w.heap.size + 1 + 1, 0, none⟩) 1 1 [S] from (ShL.laid _ [S] _ _ (w.heap.size + 1 + 1) _ _ (by simp) rfl rfl).alloc _)
      have F_ns := Lib.hid (show ShL ((((w.alloc (.cells #[.int .u64 P, .int .u64 Q, .int .u64 G] 24)).alloc (.cells #[.int .u64 R, .int .u64 S] 27)).alloc (.cells #[.int .u64 S] 22)).alloc (.cells #[.int .u64 y, .int .u64 R] 22)) (some ⟨w.heap.size + 1 + 1 + 1, 0, none⟩) 2 2 [y, R] from ShL.laid _ [y, R] _ _ (w.heap.size + 1 + 1 + 1) _ _ (by simp) rfl rfl)
      have HBW := Lib.hid (show Below w.heap.size w ((((w.alloc (.cells #[.int .u64 P, .int .u64 Q, .int .u64 G] 24)).alloc (.cells #[.int .u64 R, .int .u64 S] 27)).alloc (.cells #[.int .u64 S] 22)).alloc (.cells #[.int .u64 y, .int .u64 R] 22)) from ((((Below.refl _ _).alloc (by simp <;> omega) _).alloc (by simp <;> omega) _).alloc (by simp <;> omega) _).alloc (by simp <;> omega) _)
      go_enter Tryd.func13, Tryd.ntmps13
      obtain ⟨x0a, x0b, x0c, -⟩ := id F_g.out
      obtain ⟨x1a, x1b, x1c, x1d, -⟩ := id F_s.out
      go_wp2_with fail
      clear x0a x0b x0c x1a x1b x1c x1d
      refine (rAsked_any _ hP hQ hG F_es.out F_ns.out (by simp) (by simp) HR.out).mono ?_
      rintro e w1 ⟨rfl, hb1⟩
      replace F_g := Lib.hid (F_g.out.keep hb1)
      replace F_s := Lib.hid (F_s.out.keep hb1)
      replace F_es := Lib.hid (F_es.out.keep hb1)
      replace F_ns := Lib.hid (F_ns.out.keep hb1)
      replace HBW := Lib.hid (HBW.out.trans (hb1.mono HBW.out.size))
      clear hb1
      clear F_es
      clear F_ns
      obtain ⟨x0a, x0b, x0c, -⟩ := id F_g.out
      obtain ⟨x1a, x1b, x1c, x1d, -⟩ := id F_s.out
      go_wp2_with fail
      go_ret2
      exact ⟨rfl, HBW.out⟩
    · have hc' : e' = askS P Q G [S] [y, R] := by rw [hc]; exact lgS_ne ha
      have hnc : e' ≠ 0 := by rw [hc']; exact ha
      have hn1 : (e' != 0) = true := by simpa using hnc
      have hn2 : (e' == 0) = false := by simpa using hnc
      have HR := Lib.hid hc'.symm
      clear h hc ha hc' hnc
      have F_g := Lib.hid (show Boxed ((((w.alloc (.cells #[.int .u64 P, .int .u64 Q, .int .u64 G] 24)).alloc (.cells #[.int .u64 R, .int .u64 S] 27)).alloc (.cells #[.int .u64 S] 22)).alloc (.cells #[.int .u64 y, .int .u64 R] 22)) (w.heap.size) P Q G from (((Boxed.at _ P Q G _ (w.heap.size) (by simp)).alloc _).alloc _).alloc _)
      have F_s := Lib.hid (show Pair ((((w.alloc (.cells #[.int .u64 P, .int .u64 Q, .int .u64 G] 24)).alloc (.cells #[.int .u64 R, .int .u64 S] 27)).alloc (.cells #[.int .u64 S] 22)).alloc (.cells #[.int .u64 y, .int .u64 R] 22)) (w.heap.size + 1) R S from ((Pair.at _ R S _ (w.heap.size + 1) (by simp)).alloc _).alloc _)
      have F_es := Lib.hid (show ShL ((((w.alloc (.cells #[.int .u64 P, .int .u64 Q, .int .u64 G] 24)).alloc (.cells #[.int .u64 R, .int .u64 S] 27)).alloc (.cells #[.int .u64 S] 22)).alloc (.cells #[.int .u64 y, .int .u64 R] 22)) (some ⟨w.heap.size + 1 + 1, 0, none⟩) 1 1 [S] from (ShL.laid _ [S] _ _ (w.heap.size + 1 + 1) _ _ (by simp) rfl rfl).alloc _)
      have F_ns := Lib.hid (show ShL ((((w.alloc (.cells #[.int .u64 P, .int .u64 Q, .int .u64 G] 24)).alloc (.cells #[.int .u64 R, .int .u64 S] 27)).alloc (.cells #[.int .u64 S] 22)).alloc (.cells #[.int .u64 y, .int .u64 R] 22)) (some ⟨w.heap.size + 1 + 1 + 1, 0, none⟩) 2 2 [y, R] from ShL.laid _ [y, R] _ _ (w.heap.size + 1 + 1 + 1) _ _ (by simp) rfl rfl)
      have HBW := Lib.hid (show Below w.heap.size w ((((w.alloc (.cells #[.int .u64 P, .int .u64 Q, .int .u64 G] 24)).alloc (.cells #[.int .u64 R, .int .u64 S] 27)).alloc (.cells #[.int .u64 S] 22)).alloc (.cells #[.int .u64 y, .int .u64 R] 22)) from ((((Below.refl _ _).alloc (by simp <;> omega) _).alloc (by simp <;> omega) _).alloc (by simp <;> omega) _).alloc (by simp <;> omega) _)
      go_enter Tryd.func13, Tryd.ntmps13
      obtain ⟨x0a, x0b, x0c, -⟩ := id F_g.out
      obtain ⟨x1a, x1b, x1c, x1d, -⟩ := id F_s.out
      go_wp2_with fail
      clear x0a x0b x0c x1a x1b x1c x1d
      refine (rAsked_any _ hP hQ hG F_es.out F_ns.out (by simp) (by simp) HR.out).mono ?_
      rintro e w1 ⟨rfl, hb1⟩
      replace F_g := Lib.hid (F_g.out.keep hb1)
      replace F_s := Lib.hid (F_s.out.keep hb1)
      replace F_es := Lib.hid (F_es.out.keep hb1)
      replace F_ns := Lib.hid (F_ns.out.keep hb1)
      replace HBW := Lib.hid (HBW.out.trans (hb1.mono HBW.out.size))
      clear hb1
      clear F_es
      clear F_ns
      obtain ⟨x0a, x0b, x0c, -⟩ := id F_g.out
      obtain ⟨x1a, x1b, x1c, x1d, -⟩ := id F_s.out
      go_wp2_with fail
      go_ret2
      exact ⟨rfl, HBW.out⟩
end Go.Proofs.YtanlnhjjdiaphaaDoor
