/- The reference of chapter 30: Form, Check, IsPrime, Default, Log, FromDigest. -/
import Derived.Test.YtffefhldfnfohaaRefC
namespace Go.Proofs.Ytffefhldfnfohaa
open Go.RowKit Num






/-- What Found gives: the logarithm, or -1. -/
def FoundS (P G a most n : Int) : Prop :=
  (0 ≤ n ∧ n ≤ most ∧ powm G n P = a ∧ (∀ y, 0 ≤ y → y < n → powm G y P ≠ a)) ∨ ((∀ y, 0 ≤ y → y ≤ most → powm G y P ≠ a) ∧ n = -1)

set_option maxHeartbeats 1000000 in
theorem rFound_any (P Q G a most : Int) (w : World) (p3 : P < 2147483648) (p5 : 5 ≤ P) (g2 : 2 ≤ G) (gP : G < P) (m0 : 0 ≤ most) (m1 : most ≤ 4096) (n : Int) (hv : FoundS P G a most n) :
    Calls Try.prog 61 #[.agg #[.int .u64 P, .int .u64 Q, .int .u64 G], .int .u64 a, .int .i64 most] w fun e w' => e = .returned (.int .i64 n) ∧ Below w.heap.size w w' := by
  have HV := Lib.hid hv
  clear hv
  have hG : 0 ≤ G := by omega
  go_enter Try.func61, Try.ntmps61
  go_wp2_with fail
  go_loop [7, 8] (fun b x => ∃ bb xx : Int, 0 ≤ xx ∧ xx ≤ most + 1 ∧ Hid (powm G xx P = bb ∧ ∀ y, 0 ≤ y → y < xx → powm G y P ≠ a) ∧ 0 ≤ bb ∧ bb < P ∧ b = .int .u64 bb ∧ x = .int .i64 xx) (fun _ x => (most + 1 - intOf x).toNat)
  case atStart =>
    refine ⟨1, 0, by omega, by omega, ⟨?_, fun y y0 y1 => by omega⟩, by omega, by omega, rfl, rfl⟩
    rw [powm_zero]; exact Int.emod_eq_of_lt (by omega) (by omega)
  case round =>
    obtain ⟨b, x, x0, x1, HX, b0, b1, rfl, rfl⟩ := hrel
    obtain ⟨k1, k2⟩ := mul_bound b0 (by omega) hG (by omega)
    have k3 : 0 ≤ b * G % P := Int.emod_nonneg _ (by omega)
    have k4 : b * G % P < P := Int.emod_lt_of_pos _ (by omega)
    by_cases hx : x ≤ most
    · by_cases hb : b = a
      · have hbb : (b == a) = true := by simpa using hb
        have HZ := Lib.hid (show x = n from by
          have h1 := HX.out.1.trans hb
          rcases HV.out with ⟨n0, n1, n2, n3⟩ | ⟨n0, n1⟩
          · rcases Int.lt_trichotomy x n with hl | hl | hl
            · exact absurd h1 (n3 x x0 hl)
            · exact hl
            · exact absurd n2 (HX.out.2 n n0 hl)
          · exact absurd h1 (n0 x x0 hx))
        clear hb
        go_wp2_with fail
        go_ret
        exact ⟨ret_int HZ.out, (Below.refl _ _).alloc (Nat.le_refl _) _⟩
      · have hbb : (b == a) = false := by simpa using hb
        have HN : Hid (powm G (x + 1) P = b * G % P ∧ ∀ y, 0 ≤ y → y < x + 1 → powm G y P ≠ a) := ⟨by rw [← HX.out.1, powm_succ x0 hG], fun y y0 y1 => by
          by_cases e : y = x
          · rw [e, HX.out.1]; exact hb
          · exact HX.out.2 y y0 (by omega)⟩
        clear hb
        go_wp2_with fail
        go_round
        case rel => exact ⟨_, x + 1, by omega, by omega, HN, k3, k4, rfl, rfl⟩
        case measure => simp [intOf]; omega
    · have HZ := Lib.hid (show -1 = n from by
        rcases HV.out with ⟨n0, n1, n2, n3⟩ | ⟨n0, n1⟩
        · exact absurd n2 (HX.out.2 n n0 (by omega))
        · exact n1.symm)
      go_wp2_with fail
      go_ret
      exact ⟨ret_int HZ.out, (Below.refl _ _).alloc (Nat.le_refl _) _⟩

set_option maxHeartbeats 1000000 in
theorem rLog_gen {P Q G a most n c : Int} (w : World) (hP : 0 ≤ P) (hG : 0 ≤ G) (hr : RetL P Q G a most n c) :
    Calls Try.prog 48 #[.agg #[.int .u64 P, .int .u64 Q, .int .u64 G], .int .u64 a, .int .i64 most] w fun e w' => e = .returned (.tuple #[.int .i64 n, .int .i64 c]) ∧ Below w.heap.size w w' := by
  rcases hr with ⟨h, h1⟩ | ⟨h, rfl, hc⟩
  · obtain ⟨hH, hlt⟩ := checkS_zero h
    have HK := Lib.hid (show checkS P Q G P [a, 0] = 0 by rw [checkS_padP]; exact h)
    obtain ⟨p5, p3, hQ', pq, g2, gP⟩ := id hH
    clear pq hH hlt h
    rcases h1 with ⟨m0, m1, hl⟩ | ⟨hm, rfl, rfl⟩
    · rcases hl with ⟨n0, n1, n2, n3, rfl⟩ | ⟨n0, rfl, rfl⟩
      · have HL := Lib.hid (show FoundS P G a most n from .inl ⟨n0, n1, n2, n3⟩)
        clear n2 n3
        go_enter Try.func48, Try.ntmps48
        go_wp2_with fail
        refine (asked_any P Q G P a 0 0 _ hP hG HK.out).mono ?_
        rintro e w1 ⟨rfl, hb1⟩
        obtain ⟨hc1, hf1⟩ := bcell hb1
        have hz1 := hb1.size
        go_wp2_with fail
        refine (rFound_any P Q G a most _ p3 p5 g2 gP m0 m1 n HL.out).mono ?_
        rintro e w2 ⟨rfl, hb2⟩
        go_wp2_with fail
        go_ret2
        exact ⟨rfl, (((Below.refl _ _).alloc (Nat.le_refl _) _).trans (hb1.mono (by simp))).trans (hb2.mono (by have h9 := hz1; simp only [World.size_alloc] at h9; omega))⟩
      · have HL := Lib.hid (show FoundS P G a most (-1) from .inr ⟨n0, rfl⟩)
        clear n0
        go_enter Try.func48, Try.ntmps48
        go_wp2_with fail
        refine (asked_any P Q G P a 0 0 _ hP hG HK.out).mono ?_
        rintro e w1 ⟨rfl, hb1⟩
        obtain ⟨hc1, hf1⟩ := bcell hb1
        have hz1 := hb1.size
        go_wp2_with fail
        refine (rFound_any P Q G a most _ p3 p5 g2 gP m0 m1 (-1) HL.out).mono ?_
        rintro e w2 ⟨rfl, hb2⟩
        go_wp2_with fail
        go_ret2
        exact ⟨rfl, (((Below.refl _ _).alloc (Nat.le_refl _) _).trans (hb1.mono (by simp))).trans (hb2.mono (by have h9 := hz1; simp only [World.size_alloc] at h9; omega))⟩
    · by_cases h0 : most < 0
      · clear hm
        go_enter Try.func48, Try.ntmps48
        go_wp2_with fail
        refine (asked_any P Q G P a 0 0 _ hP hG HK.out).mono ?_
        rintro e w1 ⟨rfl, hb1⟩
        go_wp2_with fail
        go_ret2
        exact ⟨rfl, ((Below.refl _ _).alloc (Nat.le_refl _) _).trans (hb1.mono (by simp))⟩
      · have h1 : 4096 < most := hm.resolve_left h0
        clear hm
        go_enter Try.func48, Try.ntmps48
        go_wp2_with fail
        refine (asked_any P Q G P a 0 0 _ hP hG HK.out).mono ?_
        rintro e w1 ⟨rfl, hb1⟩
        go_wp2_with fail
        go_ret2
        exact ⟨rfl, ((Below.refl _ _).alloc (Nat.le_refl _) _).trans (hb1.mono (by simp))⟩
  · have HK := Lib.hid (show checkS P Q G P [a, 0] = c by rw [hc, checkS_padP])
    have hnb : (c != 0) = true := by simpa [hc] using h
    have hne : (c == 0) = false := by simpa [hc] using h
    clear hc h
    go_enter Try.func48, Try.ntmps48
    go_wp2_with fail
    refine (asked_any P Q G P a 0 c _ hP hG HK.out).mono ?_
    rintro e w1 ⟨rfl, hb1⟩
    go_wp2_with fail
    go_ret2
    exact ⟨rfl, ((Below.refl _ _).alloc (Nat.le_refl _) _).trans (hb1.mono (by simp))⟩
end Go.Proofs.Ytffefhldfnfohaa
