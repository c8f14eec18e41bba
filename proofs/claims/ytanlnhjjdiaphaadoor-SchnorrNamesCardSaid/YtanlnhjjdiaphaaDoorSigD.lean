/- schnorr.Sign; the reference's Made, Sign. -/
import Derived.Test.YtanlnhjjdiaphaaDoorSigC
import Derived.Test.YtanlnhjjdiaphaaDoorStageG
namespace Go.Proofs.YtanlnhjjdiaphaaDoor
open Go Go.RowKit Num Sha
set_option linter.unusedSimpArgs false
set_option linter.unusedVariables false

/-- What a function hands back that returns a signature, and an error. -/
theorem res_sig {w : World} {fn : Func} {c t : Tmp} {b : Nat} {x y : Int} {v : Value} (h : fn.results = #[.cell c 27, .tmp t]) (hp : Pair w b x y) (tmps : Array Value)
    (hc : tmps[c]?.getD undef = .pointer (some ⟨b, 0, none⟩)) (ht : tmps[t]?.getD undef = v) : (results fn tmps).run Tryd.prog w = .ok (.tuple #[.agg #[.int .u64 x, .int .u64 y], v]) w := by
  have h0 := hp.c0
  have h1 := hp.c1
  simp [results, h, hc, ht, go_sem, h0, h1]
theorem res_sig1 {w : World} {fn : Func} {c : Tmp} {b : Nat} {x y : Int} (h : fn.results = #[.cell c 27]) (hp : Pair w b x y) (tmps : Array Value)
    (hc : tmps[c]?.getD undef = .pointer (some ⟨b, 0, none⟩)) : (results fn tmps).run Tryd.prog w = .ok (.agg #[.int .u64 x, .int .u64 y]) w := by
  have h0 := hp.c0
  have h1 := hp.c1
  simp [results, h, hc, go_sem, h0, h1]

/-- A signature. -/
def sgR (P Q G x : Int) (T : List Int) : Int := powm G (noV Q x T) P
def sgS (P Q G x : Int) (T : List Int) : Int := (noV Q x T + chV Q [powm G x P, sgR P Q G x T] T * x % Q) % Q
def RetSig (chk R0 S0 R S e : Int) : Prop := (chk = 0 ∧ R = R0 ∧ S = S0 ∧ e = 0) ∨ (chk ≠ 0 ∧ R = 0 ∧ S = 0 ∧ e = chk)
theorem RetSig.exists (chk R0 S0 : Int) : ∃ R S e, RetSig chk R0 S0 R S e := by
  by_cases h : chk = 0
  · exact ⟨R0, S0, 0, .inl ⟨h, rfl, rfl, rfl⟩⟩
  · exact ⟨0, 0, chk, .inr ⟨h, rfl, rfl, rfl⟩⟩
theorem lgS_ok {a : Int} {n : Nat} (h : a = 0) (hn : n ≤ 8000) : lgS a n = 0 := by unfold lgS; rw [if_pos h, if_neg (by omega)]
theorem lgS_long {a : Int} {n : Nat} (h : a = 0) (hn : lgS a n ≠ 0) : 8000 < n := by
  by_cases h8 : 8000 < n
  · exact h8
  · exact absurd (lgS_ok h (by omega)) hn
theorem lgS_four {a : Int} {n : Nat} (h : a = 0) (hn : 8000 < n) : lgS a n = 4 := by unfold lgS; rw [if_pos h, if_pos hn]
theorem lgS_ne {a : Int} {n : Nat} (h : a ≠ 0) : lgS a n = a := by unfold lgS; rw [if_neg h]

set_option maxRecDepth 100000 in
set_option maxHeartbeats 4000000 in
theorem ssign_any {P Q G x R S c : Int} {tx : Option Addr} {n cp : Nat} {T : List Int} (w : World) (hT : Txt w tx n T) (hP : 0 ≤ P) (hQ : 0 ≤ Q) (hG : 0 ≤ G) (ux : U64 x) (hn : n ≤ 8100) (h : RetSig (lgS (keyS P Q G x) n) (sgR P Q G x T) (sgS P Q G x T) R S c) :
    Calls Tryd.prog 10 #[.agg #[.int .u64 P, .int .u64 Q, .int .u64 G], .int .u64 x, .slice tx n cp] w fun e w' => e = .returned (.tuple #[.agg #[.int .u64 R, .int .u64 S], .int .i64 c]) ∧ Below w.heap.size w w' := by
  have HT := Lib.hid hT
  clear hT
  rcases h with ⟨h, hR, hS, rfl⟩ | ⟨h, rfl, rfl, hc⟩
  · obtain ⟨h, hn8⟩ := lgS_zero h
    obtain ⟨hH, xQ, xne⟩ := keyS_zero h
    have x0 := ux.1
    have HR := Lib.hid h
    have hd : decide ((8000 : Int) < (n : Int)) = false := by simp; omega
    have hdn : decide (8000 < n) = false := by simp; omega
    clear h
    obtain ⟨p5, p3, hQ', pq, g2, gP⟩ := id hH
    have hP1 : 1 ≤ P := by omega
    have hGM : G < 2147483648 := by omega
    have q3 : Q < 1073741824 := by omega
    have q2 : 2 ≤ Q := by omega
    have HH := Lib.hid hH
    clear hH pq
    obtain ⟨k, hk⟩ : ∃ k, noV Q x T = k := ⟨_, rfl⟩
    obtain ⟨y, hy⟩ : ∃ y, powm G x P = y := ⟨_, rfl⟩
    have hRk : powm G k P = R := by rw [hR, sgR, hk]
    obtain ⟨h_, hh⟩ : ∃ h_, chV Q [y, R] T = h_ := ⟨_, rfl⟩
    have hSk : (k + h_ * x % Q) % Q = S := by rw [hS, sgS, hk, hy, ← hR, hh]
    obtain ⟨k0, kQ⟩ : 0 ≤ k ∧ k < Q := by rw [← hk]; exact noV_range (by omega) _ _
    obtain ⟨h0, hQQ⟩ : 0 ≤ h_ ∧ h_ < Q := by rw [← hh]; exact chV_range (by omega) _ _
    have y0 : 0 ≤ y := by rw [← hy]; exact powm_nonneg (by omega)
    have yP : y < P := by rw [← hy]; exact powm_lt (by omega)
    have R0 : 0 ≤ R := by rw [← hRk]; exact powm_nonneg (by omega)
    have RP : R < P := by rw [← hRk]; exact powm_lt (by omega)
    have UX := Lib.hid ux
    have UK := Lib.hid (U64.of_lt k0 (by omega))
    have UY := Lib.hid (U64.of_lt y0 (by omega))
    have UR := Lib.hid (U64.of_lt R0 (by omega))
    have HK := Lib.hid hk
    have HY := Lib.hid hy
    have HRK := Lib.hid hRk
    have HSK := Lib.hid hSk
    have HCC := Lib.hid hh
    have HCH := Lib.hid (show RetS (lgS (askS P Q G [] [y, R]) n) (chV Q [y, R] T) h_ 0 from .inl ⟨lgS_ok (askS_ok HH.out (by simp) (by simp; omega)) hn8, HCC.out.symm, rfl⟩)
    have HSS := Lib.hid (show RetS (askS P Q G [x, k, h_] []) ((k + h_ * x % Q) % Q) S 0 from .inl ⟨askS_ok HH.out (by simp; omega) (by simp), HSK.out.symm, rfl⟩)
    clear hk hy hRk hSk hh hR hS
    have F_g := Lib.hid (show Boxed ((w.alloc (.cells #[.int .u64 P, .int .u64 Q, .int .u64 G] 24)).alloc (.cells #[.int .u64 0, .int .u64 0] 27)) (w.heap.size) P Q G from (Boxed.at _ P Q G _ (w.heap.size) (by simp)).alloc _)
    have F_r := Lib.hid (show Pair ((w.alloc (.cells #[.int .u64 P, .int .u64 Q, .int .u64 G] 24)).alloc (.cells #[.int .u64 0, .int .u64 0] 27)) (w.heap.size + 1) 0 0 from Pair.at _ 0 0 _ (w.heap.size + 1) (by simp))
    have HBW := Lib.hid (show Below w.heap.size w ((w.alloc (.cells #[.int .u64 P, .int .u64 Q, .int .u64 G] 24)).alloc (.cells #[.int .u64 0, .int .u64 0] 27)) from ((Below.refl _ _).alloc (by simp <;> omega) _).alloc (by simp <;> omega) _)
    go_enter Tryd.func10, Tryd.ntmps10
    obtain ⟨x0a, x0b, x0c, -⟩ := id F_g.out
    obtain ⟨x1a, x1b, x1c, x1d, -⟩ := id F_r.out
    go_wp2_with fail
    clear x0a x0b x0c x1a x1b x1c x1d
    refine (skey_any (r := 0) _ hP hQ hG HR.out).mono ?_
    rintro e w1 ⟨rfl, hb1⟩
    replace F_g := Lib.hid (F_g.out.keep hb1)
    replace F_r := Lib.hid (F_r.out.keep hb1)
    replace HBW := Lib.hid (HBW.out.trans (hb1.mono HBW.out.size))
    clear hb1
    obtain ⟨x0a, x0b, x0c, -⟩ := id F_g.out
    obtain ⟨x1a, x1b, x1c, x1d, -⟩ := id F_r.out
    go_wp2_with fail
    clear x0a x0b x0c x1a x1b x1c x1d
    refine (snonce_any _ (HT.out.keep HBW.out) HH.out UX.out hn8 HK.out).mono ?_
    rintro e w2 ⟨rfl, hb2⟩
    replace F_g := Lib.hid (F_g.out.keep hb2)
    replace F_r := Lib.hid (F_r.out.keep hb2)
    replace HBW := Lib.hid (HBW.out.trans (hb2.mono HBW.out.size))
    clear hb2
    obtain ⟨x0a, x0b, x0c, -⟩ := id F_g.out
    obtain ⟨x1a, x1b, x1c, x1d, -⟩ := id F_r.out
    go_wp2_with fail
    clear x0a x0b x0c x1a x1b x1c x1d
    refine (pow_ok P Q G G x y _ HH.out hG gP UX.out HY.out).mono ?_
    rintro e w3 ⟨rfl, hb3⟩
    replace F_g := Lib.hid (F_g.out.keep hb3)
    replace F_r := Lib.hid (F_r.out.keep hb3)
    replace HBW := Lib.hid (HBW.out.trans (hb3.mono HBW.out.size))
    clear hb3
    obtain ⟨x0a, x0b, x0c, -⟩ := id F_g.out
    obtain ⟨x1a, x1b, x1c, x1d, -⟩ := id F_r.out
    go_wp2_with fail
    clear x0a x0b x0c x1a x1b x1c x1d
    refine (pow_ok P Q G G k R _ HH.out hG gP UK.out HRK.out).mono ?_
    rintro e w4 ⟨rfl, hb4⟩
    replace F_g := Lib.hid (F_g.out.keep hb4)
    replace F_r := Lib.hid (F_r.out.keep hb4)
    replace HBW := Lib.hid (HBW.out.trans (hb4.mono HBW.out.size))
    clear hb4
    obtain ⟨x0a, x0b, x0c, -⟩ := id F_g.out
    obtain ⟨x1a, x1b, x1c, x1d, -⟩ := id F_r.out
    go_wp2_with fail
    clear x0a x0b x0c x1a x1b x1c x1d
    refine (schallenge_any (v := h_) (c := 0) _ (HT.out.keep HBW.out) hP hQ hG UY.out UR.out hn HCH.out).mono ?_
    rintro e w5 ⟨rfl, hb5⟩
    replace F_g := Lib.hid (F_g.out.keep hb5)
    replace F_r := Lib.hid (F_r.out.keep hb5)
    replace HBW := Lib.hid (HBW.out.trans (hb5.mono HBW.out.size))
    clear hb5
    obtain ⟨x0a, x0b, x0c, -⟩ := id F_g.out
    obtain ⟨x1a, x1b, x1c, x1d, -⟩ := id F_r.out
    go_wp2_with fail
    clear x0a x0b x0c x1a x1b x1c x1d
    refine (srespond_any (v := S) (r := 0) _ hP hQ hG x0 k0 h0 HSS.out).mono ?_
    rintro e w6 ⟨rfl, hb6⟩
    replace F_g := Lib.hid (F_g.out.keep hb6)
    replace F_r := Lib.hid (F_r.out.keep hb6)
    replace HBW := Lib.hid (HBW.out.trans (hb6.mono HBW.out.size))
    clear hb6
    obtain ⟨x0a, x0b, x0c, -⟩ := id F_g.out
    obtain ⟨x1a, x1b, x1c, x1d, -⟩ := id F_r.out
    go_wp2_with fail
    exact bodyPost_ret (res_sig rfl (F_r.out.stored R S) _ rfl rfl) rfl ⟨rfl, (HBW.out.setCell (by simp <;> omega) _).setCell (by simp <;> omega) _⟩
  · by_cases ha : keyS P Q G x = 0
    · have hn8 := lgS_long ha h
      obtain rfl : c = 4 := by rw [hc]; exact lgS_four ha hn8
      have HR := Lib.hid ha
      have hd : decide ((8000 : Int) < (n : Int)) = true := by simp; omega
      have hdn : decide (8000 < n) = true := by simp; omega
      clear h hc ha
      have F_g := Lib.hid (show Boxed ((w.alloc (.cells #[.int .u64 P, .int .u64 Q, .int .u64 G] 24)).alloc (.cells #[.int .u64 0, .int .u64 0] 27)) (w.heap.size) P Q G from (Boxed.at _ P Q G _ (w.heap.size) (by simp)).alloc _)
      have F_r := Lib.hid (show Pair ((w.alloc (.cells #[.int .u64 P, .int .u64 Q, .int .u64 G] 24)).alloc (.cells #[.int .u64 0, .int .u64 0] 27)) (w.heap.size + 1) 0 0 from Pair.at _ 0 0 _ (w.heap.size + 1) (by simp))
      have HBW := Lib.hid (show Below w.heap.size w ((w.alloc (.cells #[.int .u64 P, .int .u64 Q, .int .u64 G] 24)).alloc (.cells #[.int .u64 0, .int .u64 0] 27)) from ((Below.refl _ _).alloc (by simp <;> omega) _).alloc (by simp <;> omega) _)
      go_enter Tryd.func10, Tryd.ntmps10
      obtain ⟨x0a, x0b, x0c, -⟩ := id F_g.out
      obtain ⟨x1a, x1b, x1c, x1d, -⟩ := id F_r.out
      go_wp2_with fail
      clear x0a x0b x0c x1a x1b x1c x1d
      refine (skey_any _ hP hQ hG HR.out).mono ?_
      rintro e w1 ⟨rfl, hb1⟩
      replace F_g := Lib.hid (F_g.out.keep hb1)
      replace F_r := Lib.hid (F_r.out.keep hb1)
      replace HBW := Lib.hid (HBW.out.trans (hb1.mono HBW.out.size))
      clear hb1
      obtain ⟨x0a, x0b, x0c, -⟩ := id F_g.out
      obtain ⟨x1a, x1b, x1c, x1d, -⟩ := id F_r.out
      go_wp2_with fail
      exact bodyPost_ret (res_sig rfl (F_r.out.stored 0 0) _ rfl rfl) rfl ⟨rfl, (HBW.out.setCell (by simp <;> omega) _).setCell (by simp <;> omega) _⟩
    · have hc' : c = keyS P Q G x := by rw [hc]; exact lgS_ne ha
      have hnc : c ≠ 0 := by rw [hc']; exact ha
      have hn1 : (c != 0) = true := by simpa using hnc
      have hn2 : (c == 0) = false := by simpa using hnc
      have HR := Lib.hid hc'.symm
      clear h hc ha hc' hnc
      have F_g := Lib.hid (show Boxed ((w.alloc (.cells #[.int .u64 P, .int .u64 Q, .int .u64 G] 24)).alloc (.cells #[.int .u64 0, .int .u64 0] 27)) (w.heap.size) P Q G from (Boxed.at _ P Q G _ (w.heap.size) (by simp)).alloc _)
      have F_r := Lib.hid (show Pair ((w.alloc (.cells #[.int .u64 P, .int .u64 Q, .int .u64 G] 24)).alloc (.cells #[.int .u64 0, .int .u64 0] 27)) (w.heap.size + 1) 0 0 from Pair.at _ 0 0 _ (w.heap.size + 1) (by simp))
      have HBW := Lib.hid (show Below w.heap.size w ((w.alloc (.cells #[.int .u64 P, .int .u64 Q, .int .u64 G] 24)).alloc (.cells #[.int .u64 0, .int .u64 0] 27)) from ((Below.refl _ _).alloc (by simp <;> omega) _).alloc (by simp <;> omega) _)
      go_enter Tryd.func10, Tryd.ntmps10
      obtain ⟨x0a, x0b, x0c, -⟩ := id F_g.out
      obtain ⟨x1a, x1b, x1c, x1d, -⟩ := id F_r.out
      go_wp2_with fail
      clear x0a x0b x0c x1a x1b x1c x1d
      refine (skey_any _ hP hQ hG HR.out).mono ?_
      rintro e w1 ⟨rfl, hb1⟩
      replace F_g := Lib.hid (F_g.out.keep hb1)
      replace F_r := Lib.hid (F_r.out.keep hb1)
      replace HBW := Lib.hid (HBW.out.trans (hb1.mono HBW.out.size))
      clear hb1
      obtain ⟨x0a, x0b, x0c, -⟩ := id F_g.out
      obtain ⟨x1a, x1b, x1c, x1d, -⟩ := id F_r.out
      go_wp2_with fail
      exact bodyPost_ret (res_sig rfl (F_r.out.stored 0 0) _ rfl rfl) rfl ⟨rfl, (HBW.out.setCell (by simp <;> omega) _).setCell (by simp <;> omega) _⟩

set_option maxRecDepth 100000 in
set_option maxHeartbeats 4000000 in
theorem rMade_any {P Q G x R S : Int} {tx : Option Addr} {n cp : Nat} {T : List Int} (w : World) (hT : Txt w tx n T) (hH : Has P Q G) (ux : U64 x) (xQ : x < Q) (hn8 : n ≤ 8000) (hR : R = sgR P Q G x T) (hS : S = sgS P Q G x T) :
    Calls Tryd.prog 32 #[.agg #[.int .u64 P, .int .u64 Q, .int .u64 G], .int .u64 x, .slice tx n cp] w fun e w' => e = .returned (.agg #[.int .u64 R, .int .u64 S]) ∧ Below w.heap.size w w' := by
  have HT := Lib.hid hT
  have x0 := ux.1
  clear hT
  obtain ⟨p5, p3, hQ', pq, g2, gP⟩ := id hH
  have hP1 : 1 ≤ P := by omega
  have hGM : G < 2147483648 := by omega
  have q3 : Q < 1073741824 := by omega
  have q2 : 2 ≤ Q := by omega
  have HH := Lib.hid hH
  clear hH pq
  have hG : 0 ≤ G := by omega
  have PM : P < 2147483648 := by omega
  obtain ⟨k, hk⟩ : ∃ k, noV Q x T = k := ⟨_, rfl⟩
  obtain ⟨y, hy⟩ : ∃ y, powm G x P = y := ⟨_, rfl⟩
  have hRk : powm G k P = R := by rw [hR, sgR, hk]
  obtain ⟨h_, hh⟩ : ∃ h_, chV Q [y, R] T = h_ := ⟨_, rfl⟩
  have hSk : (k + h_ * x % Q) % Q = S := by rw [hS, sgS, hk, hy, ← hR, hh]
  obtain ⟨k0, kQ⟩ : 0 ≤ k ∧ k < Q := by rw [← hk]; exact noV_range (by omega) _ _
  obtain ⟨h0, hQQ⟩ : 0 ≤ h_ ∧ h_ < Q := by rw [← hh]; exact chV_range (by omega) _ _
  have y0 : 0 ≤ y := by rw [← hy]; exact powm_nonneg (by omega)
  have yP : y < P := by rw [← hy]; exact powm_lt (by omega)
  have R0 : 0 ≤ R := by rw [← hRk]; exact powm_nonneg (by omega)
  have RP : R < P := by rw [← hRk]; exact powm_lt (by omega)
  have UX := Lib.hid ux
  have UK := Lib.hid (U64.of_lt k0 (by omega))
  have UY := Lib.hid (U64.of_lt y0 (by omega))
  have UR := Lib.hid (U64.of_lt R0 (by omega))
  have HK := Lib.hid hk
  have HY := Lib.hid hy
  have HRK := Lib.hid hRk
  have HSK := Lib.hid hSk
  have HCC := Lib.hid hh
  have HUS := Lib.hid (show ∀ z, z ∈ [y, R] → U64 z from fun z hz => by simp at hz; rcases hz with rfl | rfl; exact UY.out; exact UR.out)
  obtain ⟨m, hm⟩ : ∃ m, h_ * x % Q = m := ⟨_, rfl⟩
  have HM := Lib.hid hm
  have HV := Lib.hid (show (k + m) % Q = S by rw [← hm]; exact hSk)
  clear hm
  clear hk hy hRk hSk hh hR hS
  have F_g := Lib.hid (show Boxed ((w.alloc (.cells #[.int .u64 P, .int .u64 Q, .int .u64 G] 24)).alloc (.cells #[.int .u64 0, .int .u64 0] 27)) (w.heap.size) P Q G from (Boxed.at _ P Q G _ (w.heap.size) (by simp)).alloc _)
  have F_r := Lib.hid (show Pair ((w.alloc (.cells #[.int .u64 P, .int .u64 Q, .int .u64 G] 24)).alloc (.cells #[.int .u64 0, .int .u64 0] 27)) (w.heap.size + 1) 0 0 from Pair.at _ 0 0 _ (w.heap.size + 1) (by simp))
  have HBW := Lib.hid (show Below w.heap.size w ((w.alloc (.cells #[.int .u64 P, .int .u64 Q, .int .u64 G] 24)).alloc (.cells #[.int .u64 0, .int .u64 0] 27)) from ((Below.refl _ _).alloc (by simp <;> omega) _).alloc (by simp <;> omega) _)
  go_enter Tryd.func32, Tryd.ntmps32
  obtain ⟨x0a, x0b, x0c, -⟩ := id F_g.out
  obtain ⟨x1a, x1b, x1c, x1d, -⟩ := id F_r.out
  go_wp2_with fail
  clear x0a x0b x0c x1a x1b x1c x1d
  refine (rNonce_any _ (HT.out.keep HBW.out) HH.out UX.out hn8 HK.out).mono ?_
  rintro e w1 ⟨rfl, hb1⟩
  replace F_g := Lib.hid (F_g.out.keep hb1)
  replace F_r := Lib.hid (F_r.out.keep hb1)
  replace HBW := Lib.hid (HBW.out.trans (hb1.mono HBW.out.size))
  clear hb1
  obtain ⟨x0a, x0b, x0c, -⟩ := id F_g.out
  obtain ⟨x1a, x1b, x1c, x1d, -⟩ := id F_r.out
  go_wp2_with fail
  clear x0a x0b x0c x1a x1b x1c x1d
  refine (r31Power_any _ hP1 PM hG hGM UK.out HRK.out).mono ?_
  rintro e w2 ⟨rfl, hb2⟩
  replace F_g := Lib.hid (F_g.out.keep hb2)
  replace F_r := Lib.hid (F_r.out.keep hb2)
  replace HBW := Lib.hid (HBW.out.trans (hb2.mono HBW.out.size))
  clear hb2
  obtain ⟨x0a, x0b, x0c, -⟩ := id F_g.out
  obtain ⟨x1a, x1b, x1c, x1d, -⟩ := id F_r.out
  go_wp2_with fail
  clear x0a x0b x0c x1a x1b x1c x1d
  replace F_g := Lib.hid F_g.out.drew
  replace F_r := Lib.hid F_r.out.drew
  replace HBW := Lib.hid HBW.out.drew
  have hS := F_g.out.s
  refine wp_region_stage 14 (fun w' => SBox w' w.heap.size P Q G) (by kernel_rfl) ?_
  refine wpAnyB_takeP (i := 0) (some 18) (Op.move (Operand.tmp 8)) 22 (v := ?_) ⟨_, rfl, rfl, rfl, rfl, rfl⟩ (by kernel_rfl) (by kernel_rfl) (by kernel_rfl) (by kernel_rfl) (fun _ _ _ h => h) (fun _ => hS) (fun w' => ?_) ?_
  rotate_left
  · unfold bareOp
    go_simp
    try with_reducible rfl
  simp only [Act.put, List.setIfInBounds_toArray, List.set_cons_zero, List.set_cons_succ]
  refine wpAnyB_take (i := 1) (some 19) (Op.load 24 (Operand.tmp 3)) 24 (v := ?_) ⟨_, rfl, rfl, rfl, rfl, rfl⟩ (by kernel_rfl) (by kernel_rfl) (by kernel_rfl) [14] (by kernel_rfl) (fun _ _ _ h => h) hS (fun w' hSw => ?_) ?_
  rotate_left
  · obtain ⟨s0, s1, s2⟩ := hSw
    unfold bareOp
    go_simp
    try with_reducible rfl
  simp only [Act.put, List.setIfInBounds_toArray, List.set_cons_zero, List.set_cons_succ]
  refine wpAnyB_takeP (i := 2) (some 20) (Op.move (Operand.tmp 1)) 22 (v := ?_) ⟨_, rfl, rfl, rfl, rfl, rfl⟩ (by kernel_rfl) (by kernel_rfl) (by kernel_rfl) (by kernel_rfl) (fun _ _ _ h => h) (fun _ => hS) (fun w' => ?_) ?_
  rotate_left
  · unfold bareOp
    go_simp
    try with_reducible rfl
  simp only [Act.put, List.setIfInBounds_toArray, List.set_cons_zero, List.set_cons_succ]
  refine wpAnyB_takeP (i := 3) (some 21) (Op.move (Operand.tmp 7)) 22 (v := ?_) ⟨_, rfl, rfl, rfl, rfl, rfl⟩ (by kernel_rfl) (by kernel_rfl) (by kernel_rfl) (by kernel_rfl) (fun _ _ _ h => h) (fun _ => hS) (fun w' => ?_) ?_
  rotate_left
  · unfold bareOp
    go_simp
    try with_reducible rfl
  simp only [Act.put, List.setIfInBounds_toArray, List.set_cons_zero, List.set_cons_succ]
  refine wpAnyB_take (i := 4) (some 22) (Op.load 24 (Operand.tmp 3)) 24 (v := ?_) ⟨_, rfl, rfl, rfl, rfl, rfl⟩ (by kernel_rfl) (by kernel_rfl) (by kernel_rfl) [13, 14] (by kernel_rfl) (fun _ _ _ h => h) hS (fun w' hSw => ?_) ?_
  rotate_left
  · obtain ⟨s0, s1, s2⟩ := hSw
    unfold bareOp
    go_simp
    try with_reducible rfl
  simp only [Act.put, List.setIfInBounds_toArray, List.set_cons_zero, List.set_cons_succ]
  refine wpAnyB_take (i := 5) (some 23) (Op.load 24 (Operand.tmp 3)) 24 (v := ?_) ⟨_, rfl, rfl, rfl, rfl, rfl⟩ (by kernel_rfl) (by kernel_rfl) (by kernel_rfl) [9, 11, 13, 14] (by kernel_rfl) (fun _ _ _ h => h) hS (fun w' hSw => ?_) ?_
  rotate_left
  · obtain ⟨s0, s1, s2⟩ := hSw
    unfold bareOp
    go_simp
    try with_reducible rfl
  simp only [Act.put, List.setIfInBounds_toArray, List.set_cons_zero, List.set_cons_succ]
  refine wpAnyB_takeP (i := 6) (some 24) (Op.fieldAddr 24 (Operand.tmp 3) 2) 0 (v := ?_) ⟨_, rfl, rfl, rfl, rfl, rfl⟩ (by kernel_rfl) (by kernel_rfl) (by kernel_rfl) (by kernel_rfl) (fun _ _ _ h => h) (fun _ => hS) (fun w' => ?_) ?_
  rotate_left
  · unfold bareOp
    go_simp
    try with_reducible rfl
  simp only [Act.put, List.setIfInBounds_toArray, List.set_cons_zero, List.set_cons_succ]
  refine wpAnyB_take (i := 7) (some 25) (Op.load 22 (Operand.tmp 24)) 22 (v := ?_) ⟨_, rfl, rfl, rfl, rfl, rfl⟩ (by kernel_rfl) (by kernel_rfl) (by kernel_rfl) [9, 11, 13, 14] (by kernel_rfl) (fun _ _ _ h => h) hS (fun w' hSw => ?_) ?_
  rotate_left
  · obtain ⟨s0, s1, s2⟩ := hSw
    unfold bareOp
    go_simp
    try with_reducible rfl
  simp only [Act.put, List.setIfInBounds_toArray, List.set_cons_zero, List.set_cons_succ]
  refine wpAnyB_takeP (i := 8) (some 26) (Op.move (Operand.tmp 1)) 22 (v := ?_) ⟨_, rfl, rfl, rfl, rfl, rfl⟩ (by kernel_rfl) (by kernel_rfl) (by kernel_rfl) (by kernel_rfl) (fun _ _ _ h => h) (fun _ => hS) (fun w' => ?_) ?_
  rotate_left
  · unfold bareOp
    go_simp
    try with_reducible rfl
  simp only [Act.put, List.setIfInBounds_toArray, List.set_cons_zero, List.set_cons_succ]
  refine wpAnyB_takeP (i := 10) (some 28) (Op.move (Operand.tmp 8)) 22 (v := ?_) ⟨_, rfl, rfl, rfl, rfl, rfl⟩ (by kernel_rfl) (by kernel_rfl) (by kernel_rfl) (by kernel_rfl) (fun _ _ _ h => h) (fun _ => hS) (fun w' => ?_) ?_
  rotate_left
  · unfold bareOp
    go_simp
    try with_reducible rfl
  simp only [Act.put, List.setIfInBounds_toArray, List.set_cons_zero, List.set_cons_succ]
  refine wpAnyB_takeP (i := 12) (some 30) (Op.move (Operand.tmp 2)) 25 (v := ?_) ⟨_, rfl, rfl, rfl, rfl, rfl⟩ (by kernel_rfl) (by kernel_rfl) (by kernel_rfl) (by kernel_rfl) (fun _ _ _ h => h) (fun _ => hS) (fun w' => ?_) ?_
  rotate_left
  · unfold bareOp
    go_simp
    try with_reducible rfl
  simp only [Act.put, List.setIfInBounds_toArray, List.set_cons_zero, List.set_cons_succ]
  refine wpAnyB_only (i := 9) (some 27) (Op.call { callee := Callee.value (Operand.func 52), args := #[Operand.tmp 23, Operand.tmp 25, Operand.tmp 26], argTypes := #[24, 22, 22] }) 22 ⟨_, rfl, rfl, rfl, rfl, rfl⟩ (by kernel_rfl) (fun K hK => ?_)
  unfold bareOp
  go_wp2_with (go_at_call 52; refine (r31Power_any _ hP1 PM hG hGM UX.out HY.out).mono ?_; rintro e w3 ⟨rfl, hb3⟩)
  replace F_g := Lib.hid (F_g.out.keep hb3)
  replace F_r := Lib.hid (F_r.out.keep hb3)
  replace HBW := Lib.hid (HBW.out.trans (hb3.mono HBW.out.size))
  replace hS := F_g.out.s
  clear hb3
  refine hK.out _ _ (fun _ => hS) ?_
  clear hK K
  try simp only [Act.put, List.setIfInBounds_toArray, List.set_cons_zero, List.set_cons_succ]
  refine wpAnyB_only (i := 11) (some 29) (Op.buildSlice 52 2 #[(0, Operand.tmp 27), (1, Operand.tmp 28)]) 52 ⟨_, rfl, rfl, rfl, rfl, rfl⟩ (by kernel_rfl) (fun K hK => ?_)
  unfold bareOp
  go_wp2_with fail
  have F_ns := Lib.hid (ShL.laid w3 [y, R] _ 22 _ 2 2 rfl rfl rfl)
  replace F_g := Lib.hid (F_g.out.alloc (.cells #[.int .u64 y, .int .u64 R] 22))
  replace F_r := Lib.hid (F_r.out.alloc (.cells #[.int .u64 y, .int .u64 R] 22))
  replace HBW := Lib.hid (HBW.out.alloc HBW.out.size (.cells #[.int .u64 y, .int .u64 R] 22))
  replace hS := F_g.out.s
  refine hK.out _ _ (fun _ => hS) ?_
  clear hK K
  try simp only [Act.put, List.setIfInBounds_toArray, List.set_cons_zero, List.set_cons_succ]
  refine wpAnyB_only (i := 13) (some 31) (Op.call { callee := Callee.value (Operand.func 26), args := #[Operand.tmp 22, Operand.tmp 29, Operand.tmp 30], argTypes := #[24, 52, 25] }) 22 ⟨_, rfl, rfl, rfl, rfl, rfl⟩ (by kernel_rfl) (fun K hK => ?_)
  unfold bareOp
  go_wp2_with (go_at_call 26; refine (rOf31_any _ (HT.out.keep HBW.out) HH.out F_ns.out HUS.out (by simp) (by simp) (by omega) HCC.out).mono ?_; rintro e w4 ⟨rfl, hb4⟩)
  replace F_g := Lib.hid (F_g.out.keep hb4)
  replace F_r := Lib.hid (F_r.out.keep hb4)
  replace HBW := Lib.hid (HBW.out.trans (hb4.mono HBW.out.size))
  replace hS := F_g.out.s
  clear hb4
  clear F_ns
  refine hK.out _ _ (fun _ => hS) ?_
  clear hK K
  try simp only [Act.put, List.setIfInBounds_toArray, List.set_cons_zero, List.set_cons_succ]
  refine wpAnyB_only (i := 14) (some 32) (Op.call { callee := Callee.value (Operand.func 53), args := #[Operand.tmp 19, Operand.tmp 20, Operand.tmp 21, Operand.tmp 31], argTypes := #[24, 22, 22, 22] }) 22 ⟨_, rfl, rfl, rfl, rfl, rfl⟩ (by kernel_rfl) (fun K hK => ?_)
  unfold bareOp
  go_wp2_with (go_at_call 53; refine (rtold_any _ HH.out x0 xQ k0 kQ h0 hQQ HM.out HV.out).mono ?_; rintro e w5 ⟨rfl, hb5⟩)
  replace F_g := Lib.hid (F_g.out.keep hb5)
  replace F_r := Lib.hid (F_r.out.keep hb5)
  replace HBW := Lib.hid (HBW.out.trans (hb5.mono HBW.out.size))
  replace hS := F_g.out.s
  clear hb5
  obtain ⟨y1a, y1b, y1c, y1d, -⟩ := id F_r.out
  refine hK.out _ _ (fun h => absurd (h.symm.trans (by kernel_rfl : _ = true)) (by decide)) ?_
  clear hK K
  try simp only [Act.put, List.setIfInBounds_toArray, List.set_cons_zero, List.set_cons_succ]
  refine wpAnyB_takeP (i := 15) (some 33) (Op.build 27 #[(0, Operand.tmp 18), (1, Operand.tmp 32)]) 27 (v := ?_) ⟨_, rfl, rfl, rfl, rfl, rfl⟩ (by kernel_rfl) (by kernel_rfl) (by kernel_rfl) (by kernel_rfl) (fun _ _ _ h => h) (fun h => absurd (h.symm.trans (by kernel_rfl : _ = true)) (by decide)) (fun w' => ?_) ?_
  rotate_left
  · unfold bareOp
    go_simp
    try with_reducible rfl
  simp only [Act.put, List.setIfInBounds_toArray, List.set_cons_zero, List.set_cons_succ]
  refine wpAnyB_only (i := 16) none (Op.store 27 (Operand.tmp 6) (Operand.tmp 33)) 0 ⟨_, rfl, rfl, rfl, rfl, rfl⟩ (by kernel_rfl) (fun K hK => ?_)
  unfold bareOp
  go_wp2_with fail
  refine hK.out _ _ (fun h => absurd (h.symm.trans (by kernel_rfl : _ = true)) (by decide)) ?_
  clear hK K
  try simp only [Act.put, List.setIfInBounds_toArray, List.set_cons_zero, List.set_cons_succ]
  refine wpAnyB_done (by kernel_rfl) ?_ _
  go_wp2_with fail
  exact bodyPost_ret (res_sig1 rfl (F_r.out.stored R S) _ rfl) rfl ⟨rfl, (HBW.out.setCell (by simp <;> omega) _).setCell (by simp <;> omega) _⟩

set_option maxRecDepth 100000 in
set_option maxHeartbeats 4000000 in
theorem rsign_any {P Q G x R S c : Int} {tx : Option Addr} {n cp : Nat} {T : List Int} (w : World) (hT : Txt w tx n T) (hP : 0 ≤ P) (hQ : 0 ≤ Q) (hG : 0 ≤ G) (ux : U64 x) (hn : n ≤ 8100) (h : RetSig (lgS (keyS P Q G x) n) (sgR P Q G x T) (sgS P Q G x T) R S c) :
    Calls Tryd.prog 11 #[.agg #[.int .u64 P, .int .u64 Q, .int .u64 G], .int .u64 x, .slice tx n cp] w fun e w' => e = .returned (.tuple #[.agg #[.int .u64 R, .int .u64 S], .int .i64 c]) ∧ Below w.heap.size w w' := by
  have HT := Lib.hid hT
  clear hT
  rcases h with ⟨h, hR, hS, rfl⟩ | ⟨h, rfl, rfl, hc⟩
  · obtain ⟨h, hn8⟩ := lgS_zero h
    obtain ⟨hH, xQ, xne⟩ := keyS_zero h
    have x0 := ux.1
    have HR := Lib.hid h
    have hd : decide ((8000 : Int) < (n : Int)) = false := by simp; omega
    have hdn : decide (8000 < n) = false := by simp; omega
    clear h
    obtain ⟨p5, p3, hQ', pq, g2, gP⟩ := id hH
    have hP1 : 1 ≤ P := by omega
    have hGM : G < 2147483648 := by omega
    have q3 : Q < 1073741824 := by omega
    have q2 : 2 ≤ Q := by omega
    have HH := Lib.hid hH
    clear hH pq
    have HRX := Lib.hid hR
    have HSX := Lib.hid hS
    have UX := Lib.hid ux
    clear hR hS ux
    have F_g := Lib.hid (show Boxed ((w.alloc (.cells #[.int .u64 P, .int .u64 Q, .int .u64 G] 24)).alloc (.cells #[.int .u64 0, .int .u64 0] 27)) (w.heap.size) P Q G from (Boxed.at _ P Q G _ (w.heap.size) (by simp)).alloc _)
    have F_r := Lib.hid (show Pair ((w.alloc (.cells #[.int .u64 P, .int .u64 Q, .int .u64 G] 24)).alloc (.cells #[.int .u64 0, .int .u64 0] 27)) (w.heap.size + 1) 0 0 from Pair.at _ 0 0 _ (w.heap.size + 1) (by simp))
    have HBW := Lib.hid (show Below w.heap.size w ((w.alloc (.cells #[.int .u64 P, .int .u64 Q, .int .u64 G] 24)).alloc (.cells #[.int .u64 0, .int .u64 0] 27)) from ((Below.refl _ _).alloc (by simp <;> omega) _).alloc (by simp <;> omega) _)
    go_enter Tryd.func11, Tryd.ntmps11
    obtain ⟨x0a, x0b, x0c, -⟩ := id F_g.out
    obtain ⟨x1a, x1b, x1c, x1d, -⟩ := id F_r.out
    go_wp2_with fail
    clear x0a x0b x0c x1a x1b x1c x1d
    refine (rkey_any (r := 0) _ hP hQ hG HR.out).mono ?_
    rintro e w1 ⟨rfl, hb1⟩
    replace F_g := Lib.hid (F_g.out.keep hb1)
    replace F_r := Lib.hid (F_r.out.keep hb1)
    replace HBW := Lib.hid (HBW.out.trans (hb1.mono HBW.out.size))
    clear hb1
    obtain ⟨x0a, x0b, x0c, -⟩ := id F_g.out
    obtain ⟨x1a, x1b, x1c, x1d, -⟩ := id F_r.out
    go_wp2_with fail
    clear x0a x0b x0c x1a x1b x1c x1d
    refine (rMade_any _ (HT.out.keep HBW.out) HH.out UX.out xQ hn8 HRX.out HSX.out).mono ?_
    rintro e w2 ⟨rfl, hb2⟩
    replace F_g := Lib.hid (F_g.out.keep hb2)
    replace F_r := Lib.hid (F_r.out.keep hb2)
    replace HBW := Lib.hid (HBW.out.trans (hb2.mono HBW.out.size))
    clear hb2
    obtain ⟨x0a, x0b, x0c, -⟩ := id F_g.out
    obtain ⟨x1a, x1b, x1c, x1d, -⟩ := id F_r.out
    go_wp2_with fail
    exact bodyPost_ret (res_sig rfl (F_r.out.stored R S) _ rfl rfl) rfl ⟨rfl, (HBW.out.setCell (by simp <;> omega) _).setCell (by simp <;> omega) _⟩
  · by_cases ha : keyS P Q G x = 0
    · have hn8 := lgS_long ha h
      obtain rfl : c = 4 := by rw [hc]; exact lgS_four ha hn8
      have HR := Lib.hid ha
      have hd : decide ((8000 : Int) < (n : Int)) = true := by simp; omega
      have hdn : decide (8000 < n) = true := by simp; omega
      clear h hc ha
      have F_g := Lib.hid (show Boxed ((w.alloc (.cells #[.int .u64 P, .int .u64 Q, .int .u64 G] 24)).alloc (.cells #[.int .u64 0, .int .u64 0] 27)) (w.heap.size) P Q G from (Boxed.at _ P Q G _ (w.heap.size) (by simp)).alloc _)
      have F_r := Lib.hid (show Pair ((w.alloc (.cells #[.int .u64 P, .int .u64 Q, .int .u64 G] 24)).alloc (.cells #[.int .u64 0, .int .u64 0] 27)) (w.heap.size + 1) 0 0 from Pair.at _ 0 0 _ (w.heap.size + 1) (by simp))
      have HBW := Lib.hid (show Below w.heap.size w ((w.alloc (.cells #[.int .u64 P, .int .u64 Q, .int .u64 G] 24)).alloc (.cells #[.int .u64 0, .int .u64 0] 27)) from ((Below.refl _ _).alloc (by simp <;> omega) _).alloc (by simp <;> omega) _)
      go_enter Tryd.func11, Tryd.ntmps11
      obtain ⟨x0a, x0b, x0c, -⟩ := id F_g.out
      obtain ⟨x1a, x1b, x1c, x1d, -⟩ := id F_r.out
      go_wp2_with fail
      clear x0a x0b x0c x1a x1b x1c x1d
      refine (rkey_any _ hP hQ hG HR.out).mono ?_
      rintro e w1 ⟨rfl, hb1⟩
      replace F_g := Lib.hid (F_g.out.keep hb1)
      replace F_r := Lib.hid (F_r.out.keep hb1)
      replace HBW := Lib.hid (HBW.out.trans (hb1.mono HBW.out.size))
      clear hb1
      obtain ⟨x0a, x0b, x0c, -⟩ := id F_g.out
      obtain ⟨x1a, x1b, x1c, x1d, -⟩ := id F_r.out
      go_wp2_with fail
      exact bodyPost_ret (res_sig rfl (F_r.out.stored 0 0) _ rfl rfl) rfl ⟨rfl, (HBW.out.setCell (by simp <;> omega) _).setCell (by simp <;> omega) _⟩
    · have hc' : c = keyS P Q G x := by rw [hc]; exact lgS_ne ha
      have hnc : c ≠ 0 := by rw [hc']; exact ha
      have hn1 : (c != 0) = true := by simpa using hnc
      have hn2 : (c == 0) = false := by simpa using hnc
      have HR := Lib.hid hc'.symm
      clear h hc ha hc' hnc
      have F_g := Lib.hid (show Boxed ((w.alloc (.cells #[.int .u64 P, .int .u64 Q, .int .u64 G] 24)).alloc (.cells #[.int .u64 0, .int .u64 0] 27)) (w.heap.size) P Q G from (Boxed.at _ P Q G _ (w.heap.size) (by simp)).alloc _)
      have F_r := Lib.hid (show Pair ((w.alloc (.cells #[.int .u64 P, .int .u64 Q, .int .u64 G] 24)).alloc (.cells #[.int .u64 0, .int .u64 0] 27)) (w.heap.size + 1) 0 0 from Pair.at _ 0 0 _ (w.heap.size + 1) (by simp))
      have HBW := Lib.hid (show Below w.heap.size w ((w.alloc (.cells #[.int .u64 P, .int .u64 Q, .int .u64 G] 24)).alloc (.cells #[.int .u64 0, .int .u64 0] 27)) from ((Below.refl _ _).alloc (by simp <;> omega) _).alloc (by simp <;> omega) _)
      go_enter Tryd.func11, Tryd.ntmps11
      obtain ⟨x0a, x0b, x0c, -⟩ := id F_g.out
      obtain ⟨x1a, x1b, x1c, x1d, -⟩ := id F_r.out
      go_wp2_with fail
      clear x0a x0b x0c x1a x1b x1c x1d
      refine (rkey_any _ hP hQ hG HR.out).mono ?_
      rintro e w1 ⟨rfl, hb1⟩
      replace F_g := Lib.hid (F_g.out.keep hb1)
      replace F_r := Lib.hid (F_r.out.keep hb1)
      replace HBW := Lib.hid (HBW.out.trans (hb1.mono HBW.out.size))
      clear hb1
      obtain ⟨x0a, x0b, x0c, -⟩ := id F_g.out
      obtain ⟨x1a, x1b, x1c, x1d, -⟩ := id F_r.out
      go_wp2_with fail
      exact bodyPost_ret (res_sig rfl (F_r.out.stored 0 0) _ rfl rfl) rfl ⟨rfl, (HBW.out.setCell (by simp <;> omega) _).setCell (by simp <;> omega) _⟩
end Go.Proofs.YtanlnhjjdiaphaaDoor
