/- The reference of chapter 30: Form, Check, IsPrime, Default, Log, FromDigest. -/
import Derived.Test.YtjdfjgphjdcnmaaRefC
namespace Go.Proofs.Ytjdfjgphjdcnmaa
open Go.RowKit Num

set_option maxHeartbeats 800000 in
theorem rForm_any (P Q G : Int) (w : World) (hP : 0 ≤ P) (hG : 0 ≤ G) :
    Calls Try.prog 17 #[.agg #[.int .u64 P, .int .u64 Q, .int .u64 G]] w fun e w' => e = .returned (.int .i64 (formS P Q G)) ∧ Below w.heap.size w w' := by
  by_cases hH : Has P Q G
  · have HH := Lib.hid hH
    have HR := Lib.hid (show 0 = formS P Q G by rw [formS, if_pos hH])
    clear hH
    go_enter Try.func17, Try.ntmps17
    go_wp2_with fail
    refine (rHas_any P Q G true _ hP hG (by simp [HH.out])).mono ?_
    rintro e w1 ⟨rfl, hb1⟩
    go_wp2_with fail
    go_ret
    exact ⟨ret_int HR.out, ((Below.refl _ _).alloc (Nat.le_refl _) _).trans (hb1.mono (by simp))⟩
  · have HH := Lib.hid hH
    have HR := Lib.hid (show 300 = formS P Q G by rw [formS, if_neg hH])
    clear hH
    go_enter Try.func17, Try.ntmps17
    go_wp2_with fail
    refine (rHas_any P Q G false _ hP hG (by simp [HH.out])).mono ?_
    rintro e w1 ⟨rfl, hb1⟩
    go_wp2_with fail
    go_ret
    exact ⟨ret_int HR.out, ((Below.refl _ _).alloc (Nat.le_refl _) _).trans (hb1.mono (by simp))⟩

set_option maxHeartbeats 1600000 in
theorem rMay_any (P Q G : Int) (r : Bool) (w : World) (hP : 0 ≤ P) (hQ : 0 ≤ Q) (hG : 0 ≤ G) (hr : r = true ↔ Valid P Q G) :
    Calls Try.prog 50 #[.agg #[.int .u64 P, .int .u64 Q, .int .u64 G]] w fun e w' => e = .returned (.bool r) ∧ Below w.heap.size w w' := by
  have HR := Lib.hid hr
  clear hr
  by_cases hH : Has P Q G
  case neg =>
    have HC := Lib.hid (show false = r by rw [Bool.eq_iff_iff, HR.out]; simp [Valid, hH])
    have HH := Lib.hid hH
    clear hH
    go_enter Try.func50, Try.ntmps50
    go_wp2_with fail
    refine (rHas_any P Q G false _ hP hG (by simp [HH.out])).mono ?_
    rintro e w1 ⟨rfl, hb1⟩
    go_wp2_with fail
    go_ret
    exact ⟨ret_bool HC.out, ((Below.refl _ _).alloc (Nat.le_refl _) _).trans (hb1.mono (by simp))⟩
  case pos =>
    obtain ⟨p5, p3, _, pq, g2, gP⟩ := id hH
    have q3 : Q < 1073741824 := by omega
    have HH := Lib.hid hH
    clear hH pq
    by_cases h1 : Pr P
    case neg =>
      have HC := Lib.hid (show false = r by rw [Bool.eq_iff_iff, HR.out]; simp [Valid, h1])
      have H1 := Lib.hid h1
      clear h1
      go_enter Try.func50, Try.ntmps50
      go_wp2_with fail
      refine (rHas_any P Q G true _ hP hG (by simp [HH.out])).mono ?_
      rintro e w1 ⟨rfl, hb1⟩
      obtain ⟨hc, hf⟩ := bcell hb1
      have hz := hb1.size
      go_wp2_with fail
      refine (rprime_any P false _ hP p3 (by simp [H1.out])).mono ?_
      rintro e w2 ⟨rfl, rfl⟩
      go_wp2_with fail
      go_ret
      exact ⟨ret_bool HC.out, ((Below.refl _ _).alloc (Nat.le_refl _) _).trans (hb1.mono (by simp))⟩
    case pos =>
      have H1 := Lib.hid h1
      clear h1
      by_cases h2 : Pr Q
      case neg =>
        have HC := Lib.hid (show false = r by rw [Bool.eq_iff_iff, HR.out]; simp [Valid, h2])
        have H2 := Lib.hid h2
        clear h2
        go_enter Try.func50, Try.ntmps50
        go_wp2_with fail
        refine (rHas_any P Q G true _ hP hG (by simp [HH.out])).mono ?_
        rintro e w1 ⟨rfl, hb1⟩
        obtain ⟨hc, hf⟩ := bcell hb1
        have hz := hb1.size
        go_wp2_with fail
        refine (rprime_any P true _ hP p3 (by simp [H1.out])).mono ?_
        rintro e w2 ⟨rfl, rfl⟩
        go_wp2_with fail
        refine (rprime_any Q false _ hQ (by omega) (by simp [H2.out])).mono ?_
        rintro e w2 ⟨rfl, rfl⟩
        go_wp2_with fail
        go_ret
        exact ⟨ret_bool HC.out, ((Below.refl _ _).alloc (Nat.le_refl _) _).trans (hb1.mono (by simp))⟩
      case pos =>
        have H2 := Lib.hid h2
        clear h2
        have HM := Lib.hid (show r = true ↔ Mem P Q G by
          rw [HR.out]
          exact ⟨fun h => h.grp.mem_g, fun h => ⟨HH.out, H1.out, H2.out, h.2.2⟩⟩)
        go_enter Try.func50, Try.ntmps50
        go_wp2_with fail
        refine (rHas_any P Q G true _ hP hG (by simp [HH.out])).mono ?_
        rintro e w1 ⟨rfl, hb1⟩
        obtain ⟨hc, hf⟩ := bcell hb1
        have hz := hb1.size
        go_wp2_with fail
        refine (rprime_any P true _ hP p3 (by simp [H1.out])).mono ?_
        rintro e w2 ⟨rfl, rfl⟩
        go_wp2_with fail
        refine (rprime_any Q true _ hQ (by omega) (by simp [H2.out])).mono ?_
        rintro e w2 ⟨rfl, rfl⟩
        go_wp2_with fail
        refine (rIn_gen hQ _ HH.out hG gP HM.out).mono ?_
        rintro e w3 ⟨rfl, hb3⟩
        go_wp2_with fail
        go_ret
        exact ⟨rfl, (((Below.refl _ _).alloc (Nat.le_refl _) _).trans (hb1.mono (by simp))).trans (hb3.mono (by have h9 := hz; simp only [World.size_alloc] at h9; omega))⟩

set_option maxHeartbeats 800000 in
theorem rCheck_any (P Q G c : Int) (w : World) (hP : 0 ≤ P) (hQ : 0 ≤ Q) (hG : 0 ≤ G) (hr : ValidS P Q G c) :
    Calls Try.prog 19 #[.agg #[.int .u64 P, .int .u64 Q, .int .u64 G]] w fun e w' => e = .returned (.int .i64 c) ∧ Below w.heap.size w w' := by
  rcases hr with ⟨hv, hc⟩ | ⟨hv, hc⟩
  · have HC := Lib.hid hc
    have HV := Lib.hid hv
    clear hc hv
    go_enter Try.func19, Try.ntmps19
    go_wp2_with fail
    refine (rMay_any P Q G true _ hP hQ hG (by simp [HV.out])).mono ?_
    rintro e w1 ⟨rfl, hb1⟩
    go_wp2_with fail
    go_ret
    exact ⟨ret_int HC.out.symm, ((Below.refl _ _).alloc (Nat.le_refl _) _).trans (hb1.mono (by simp))⟩
  · have HC := Lib.hid hc
    have HV := Lib.hid hv
    clear hc hv
    go_enter Try.func19, Try.ntmps19
    go_wp2_with fail
    refine (rMay_any P Q G false _ hP hQ hG (by simp [HV.out])).mono ?_
    rintro e w1 ⟨rfl, hb1⟩
    go_wp2_with fail
    go_ret
    exact ⟨ret_int HC.out.symm, ((Below.refl _ _).alloc (Nat.le_refl _) _).trans (hb1.mono (by simp))⟩

set_option maxHeartbeats 400000 in
theorem rIsPrime_small (n : Int) (r : Bool) (w : World) (h0 : 0 ≤ n) (h1 : n < 2147483648) (hr : r = true ↔ Pr n) :
    Calls Try.prog 15 #[.int .u64 n] w fun e w' => e = .returned (.tuple #[.bool r, .int .i64 0]) ∧ w = w' := by
  have HR := Lib.hid hr
  clear hr
  go_enter Try.func15, Try.ntmps15
  go_wp2_with fail
  refine (rprime_any n r _ h0 h1 HR.out).mono ?_
  rintro e w1 ⟨rfl, rfl⟩
  go_wp2_with fail
  go_ret2
  exact ⟨rfl, rfl⟩

set_option maxHeartbeats 400000 in
theorem rIsPrime_great (n : Int) (w : World) (h1 : 2147483648 ≤ n) :
    Calls Try.prog 15 #[.int .u64 n] w fun e w' => e = .returned (.tuple #[.bool false, .int .i64 30]) ∧ w = w' := by
  go_enter Try.func15, Try.ntmps15
  go_wp2_with fail
  go_ret2
  exact ⟨rfl, rfl⟩

set_option maxHeartbeats 400000 in
theorem rDefault_any (w : World) :
    Calls Try.prog 21 #[] w fun e w' => e = .returned (.agg #[.int .u64 1000000007, .int .u64 500000003, .int .u64 4]) ∧ Below w.heap.size w w' := by
  go_enter Try.func21, Try.ntmps21
  go_wp2
  exact bodyPost_ret (v := .agg #[.int .u64 1000000007, .int .u64 500000003, .int .u64 4]) (by simp [results, Try.results21, go_sem]) rfl ⟨rfl, (Below.refl _ _).alloc (Nat.le_refl _) _⟩

/-- What Found gives: the logarithm, or -1. -/
def FoundS (P G a most n : Int) : Prop :=
  (0 ≤ n ∧ n ≤ most ∧ powm G n P = a ∧ (∀ y, 0 ≤ y → y < n → powm G y P ≠ a)) ∨ ((∀ y, 0 ≤ y → y ≤ most → powm G y P ≠ a) ∧ n = -1)

set_option maxHeartbeats 1000000 in
theorem rFound_any (P Q G a most : Int) (w : World) (p3 : P < 2147483648) (p5 : 5 ≤ P) (g2 : 2 ≤ G) (gP : G < P) (m0 : 0 ≤ most) (m1 : most ≤ 4096) (n : Int) (hv : FoundS P G a most n) :
    Calls Try.prog 54 #[.agg #[.int .u64 P, .int .u64 Q, .int .u64 G], .int .u64 a, .int .i64 most] w fun e w' => e = .returned (.int .i64 n) ∧ Below w.heap.size w w' := by
  have HV := Lib.hid hv
  clear hv
  have hG : 0 ≤ G := by omega
  go_enter Try.func54, Try.ntmps54
  go_wp2_with fail
  go_loop [7, 8] (fun b x => ∃ bb xx : Int, 0 ≤ xx ∧ xx ≤ most + 1 ∧ Hid (powm G xx P = bb ∧ ∀ y, 0 ≤ y → y < xx → powm G y P ≠ a) ∧ 0 ≤ bb ∧ bb < P ∧ b = .int .u64 bb ∧ x = .int .i64 xx) (fun _ x => (most + 1 - intOf x).toNat)
  case atStart =>
    refine ⟨1, 0, by omega, by omega, ⟨?_, fun y y0 y1 => by omega⟩, by omega, by omega, rfl, rfl⟩
    rw [powm_zero]; exact Int.emod_eq_of_lt (by omega) (by omega)
  case round =>
    obtain ⟨b, x, x0, x1, HX, b0, b1, rfl, rfl⟩ := hrel
    obtain ⟨k1, k2⟩ := mul_bound b0 (by omega) hG (by omega)
    have k3 : 0 ≤ b * G % P := Int.emod_nonneg _ (by omega)
    have k4 : b * G % P < P := Int.emod_lt_of_pos _ (by omega)
    by_cases hx : x ≤ most
    · by_cases hb : b = a
      · have hbb : (b == a) = true := by simpa using hb
        have HZ := Lib.hid (show x = n from by
          have h1 := HX.out.1.trans hb
          rcases HV.out with ⟨n0, n1, n2, n3⟩ | ⟨n0, n1⟩
          · rcases Int.lt_trichotomy x n with hl | hl | hl
            · exact absurd h1 (n3 x x0 hl)
            · exact hl
            · exact absurd n2 (HX.out.2 n n0 hl)
          · exact absurd h1 (n0 x x0 hx))
        clear hb
        go_wp2_with fail
        go_ret
        exact ⟨ret_int HZ.out, (Below.refl _ _).alloc (Nat.le_refl _) _⟩
      · have hbb : (b == a) = false := by simpa using hb
        have HN : Hid (powm G (x + 1) P = b * G % P ∧ ∀ y, 0 ≤ y → y < x + 1 → powm G y P ≠ a) := ⟨by rw [← HX.out.1, powm_succ x0 hG], fun y y0 y1 => by
          by_cases e : y = x
          · rw [e, HX.out.1]; exact hb
          · exact HX.out.2 y y0 (by omega)⟩
        clear hb
        go_wp2_with fail
        go_round
        case rel => exact ⟨_, x + 1, by omega, by omega, HN, k3, k4, rfl, rfl⟩
        case measure => simp [intOf]; omega
    · have HZ := Lib.hid (show -1 = n from by
        rcases HV.out with ⟨n0, n1, n2, n3⟩ | ⟨n0, n1⟩
        · exact absurd n2 (HX.out.2 n n0 (by omega))
        · exact n1.symm)
      go_wp2_with fail
      go_ret
      exact ⟨ret_int HZ.out, (Below.refl _ _).alloc (Nat.le_refl _) _⟩

set_option maxHeartbeats 1000000 in
theorem rLog_gen {P Q G a most n c : Int} (w : World) (hP : 0 ≤ P) (hG : 0 ≤ G) (hr : RetL P Q G a most n c) :
    Calls Try.prog 23 #[.agg #[.int .u64 P, .int .u64 Q, .int .u64 G], .int .u64 a, .int .i64 most] w fun e w' => e = .returned (.tuple #[.int .i64 n, .int .i64 c]) ∧ Below w.heap.size w w' := by
  rcases hr with ⟨h, h1⟩ | ⟨h, rfl, hc⟩
  · obtain ⟨hH, hlt⟩ := checkS_zero h
    have HK := Lib.hid (show checkS P Q G P [a, 0] = 0 by rw [checkS_padP]; exact h)
    obtain ⟨p5, p3, hQ', pq, g2, gP⟩ := id hH
    clear pq hH hlt h
    rcases h1 with ⟨m0, m1, hl⟩ | ⟨hm, rfl, rfl⟩
    · rcases hl with ⟨n0, n1, n2, n3, rfl⟩ | ⟨n0, rfl, rfl⟩
      · have HL := Lib.hid (show FoundS P G a most n from .inl ⟨n0, n1, n2, n3⟩)
        clear n2 n3
        go_enter Try.func23, Try.ntmps23
        go_wp2_with fail
        refine (asked_any P Q G P a 0 0 _ hP hG HK.out).mono ?_
        rintro e w1 ⟨rfl, hb1⟩
        obtain ⟨hc1, hf1⟩ := bcell hb1
        have hz1 := hb1.size
        go_wp2_with fail
        refine (rFound_any P Q G a most _ p3 p5 g2 gP m0 m1 n HL.out).mono ?_
        rintro e w2 ⟨rfl, hb2⟩
        go_wp2_with fail
        go_ret2
        exact ⟨rfl, (((Below.refl _ _).alloc (Nat.le_refl _) _).trans (hb1.mono (by simp))).trans (hb2.mono (by have h9 := hz1; simp only [World.size_alloc] at h9; omega))⟩
      · have HL := Lib.hid (show FoundS P G a most (-1) from .inr ⟨n0, rfl⟩)
        clear n0
        go_enter Try.func23, Try.ntmps23
        go_wp2_with fail
        refine (asked_any P Q G P a 0 0 _ hP hG HK.out).mono ?_
        rintro e w1 ⟨rfl, hb1⟩
        obtain ⟨hc1, hf1⟩ := bcell hb1
        have hz1 := hb1.size
        go_wp2_with fail
        refine (rFound_any P Q G a most _ p3 p5 g2 gP m0 m1 (-1) HL.out).mono ?_
        rintro e w2 ⟨rfl, hb2⟩
        go_wp2_with fail
        go_ret2
        exact ⟨rfl, (((Below.refl _ _).alloc (Nat.le_refl _) _).trans (hb1.mono (by simp))).trans (hb2.mono (by have h9 := hz1; simp only [World.size_alloc] at h9; omega))⟩
    · by_cases h0 : most < 0
      · clear hm
        go_enter Try.func23, Try.ntmps23
        go_wp2_with fail
        refine (asked_any P Q G P a 0 0 _ hP hG HK.out).mono ?_
        rintro e w1 ⟨rfl, hb1⟩
        go_wp2_with fail
        go_ret2
        exact ⟨rfl, ((Below.refl _ _).alloc (Nat.le_refl _) _).trans (hb1.mono (by simp))⟩
      · have h1 : 4096 < most := hm.resolve_left h0
        clear hm
        go_enter Try.func23, Try.ntmps23
        go_wp2_with fail
        refine (asked_any P Q G P a 0 0 _ hP hG HK.out).mono ?_
        rintro e w1 ⟨rfl, hb1⟩
        go_wp2_with fail
        go_ret2
        exact ⟨rfl, ((Below.refl _ _).alloc (Nat.le_refl _) _).trans (hb1.mono (by simp))⟩
  · have HK := Lib.hid (show checkS P Q G P [a, 0] = c by rw [hc, checkS_padP])
    have hnb : (c != 0) = true := by simpa [hc] using h
    have hne : (c == 0) = false := by simpa [hc] using h
    clear hc h
    go_enter Try.func23, Try.ntmps23
    go_wp2_with fail
    refine (asked_any P Q G P a 0 c _ hP hG HK.out).mono ?_
    rintro e w1 ⟨rfl, hb1⟩
    go_wp2_with fail
    go_ret2
    exact ⟨rfl, ((Below.refl _ _).alloc (Nat.le_refl _) _).trans (hb1.mono (by simp))⟩
end Go.Proofs.Ytjdfjgphjdcnmaa
