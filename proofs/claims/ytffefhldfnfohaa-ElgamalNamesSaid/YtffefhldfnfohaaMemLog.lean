/- group.Member and group.Log. -/
import Derived.Test.YtffefhldfnfohaaGrp
namespace Go.Proofs.Ytffefhldfnfohaa
open Go.RowKit Num

set_option maxHeartbeats 1000000 in
theorem member_bad (P Q G a c : Int) (w : World) (hP : 0 ≤ P) (hQ : 0 ≤ Q) (hG : 0 ≤ G) (hr : checkS P Q G P [a] = c) (hne : c ≠ 0) :
    Calls Try.prog 29 #[.agg #[.int .u64 P, .int .u64 Q, .int .u64 G], .int .u64 a] w fun e w' => e = .returned (.tuple #[.bool false, .int .i64 c]) ∧ Below w.heap.size w w' := by
  have HR := Lib.hid hr
  clear hr
  have hnb : (c != 0) = true := by simpa using hne
  go_enter Try.func29, Try.ntmps29
  go_wp2_with fail
  go_region_held3 (fun w' => w'.cell? ⟨w.heap.size, 0, none⟩ = some (.int .u64 P) ∧ w'.cell? ⟨w.heap.size, 1, none⟩ = some (.int .u64 Q) ∧ w'.cell? ⟨w.heap.size, 2, none⟩ = some (.int .u64 G))
    (first | go_keep | (refine ⟨?_, ?_, ?_⟩ <;> (rw [hc _ _ (by simp <;> omega)]; go_simp)))
    (first | (go_at_call 50; refine (below_any _ _).mono ?_; rintro e w' ⟨rfl, rfl⟩) | (go_at_call 49; refine (check1 hP hQ hG HR.out (by go_simp) (by go_simp) (by simp <;> omega) (by simp <;> omega)).mono ?_; rintro e w1 ⟨rfl, hb1⟩; obtain ⟨hc, hf⟩ := bcell hb1; have hz := hb1.size))
  all_goals
    go_wp2
    go_ret2
    exact ⟨rfl, Below.trans (by repeat (first | exact Below.refl _ _ | apply Below.drew | (refine Below.alloc ?_ (by simp <;> omega) _))) (hb1.mono (by simp <;> omega))⟩

set_option maxHeartbeats 1000000 in
theorem member_ok (P Q G a : Int) (r : Bool) (w : World) (hH : Has P Q G) (a0 : 0 ≤ a) (aP : a < P) (hr : r = true ↔ Mem P Q a) :
    Calls Try.prog 29 #[.agg #[.int .u64 P, .int .u64 Q, .int .u64 G], .int .u64 a] w fun e w' => e = .returned (.tuple #[.bool r, .int .i64 0]) ∧ Below w.heap.size w w' := by
  obtain ⟨p5, p3, hQ, pq, g2, gP⟩ := id hH
  have hP : 0 ≤ P := by omega
  have hG : 0 ≤ G := by omega
  have HR := Lib.hid (show checkS P Q G P [a] = 0 by rw [checkS, if_pos hH]; simp [okAll]; omega)
  have HM := Lib.hid hr
  clear hr
  have HX := Lib.hid (U64.of_lt hQ (by omega))
  have q3 : Q < 1073741824 := by omega
  have PQ := Lib.hid pq
  clear pq
  go_enter Try.func29, Try.ntmps29
  go_wp2_with fail
  go_region_held3 (fun w' => w'.cell? ⟨w.heap.size, 0, none⟩ = some (.int .u64 P) ∧ w'.cell? ⟨w.heap.size, 1, none⟩ = some (.int .u64 Q) ∧ w'.cell? ⟨w.heap.size, 2, none⟩ = some (.int .u64 G))
    (first | go_keep | (refine ⟨?_, ?_, ?_⟩ <;> (rw [hc _ _ (by simp <;> omega)]; go_simp)))
    (first | (go_at_call 50; refine (below_any _ _).mono ?_; rintro e w' ⟨rfl, rfl⟩) | (go_at_call 49; refine (check1 hP hQ hG HR.out (by go_simp) (by go_simp) (by simp <;> omega) (by simp <;> omega)).mono ?_; rintro e w1 ⟨rfl, hb1⟩; obtain ⟨hc, hf⟩ := bcell hb1; have hz := hb1.size))
  all_goals
    by_cases h0 : 0 < a
    · have HZ := Lib.hid (show (powm a Q P == 1) = r by rw [Bool.eq_iff_iff, HM.out]; simp [Mem, h0, aP])
      go_wp2_with (go_at_call 51; refine (power_any a Q P _ _ a0 HX.out (by omega) p3 rfl).mono ?_; rintro e w' ⟨rfl, rfl⟩)
      go_ret2
      exact ⟨ret_bi HZ.out rfl, Below.trans (by repeat (first | exact Below.refl _ _ | apply Below.drew | (refine Below.alloc ?_ (by simp <;> omega) _))) (hb1.mono (by simp <;> omega))⟩
    · have HZ := Lib.hid (show false = r by rw [Bool.eq_iff_iff, HM.out]; simp [Mem, h0])
      go_wp2
      go_ret2
      exact ⟨ret_bi HZ.out rfl, Below.trans (by repeat (first | exact Below.refl _ _ | apply Below.drew | (refine Below.alloc ?_ (by simp <;> omega) _))) (hb1.mono (by simp <;> omega))⟩

set_option maxHeartbeats 1000000 in
theorem log_bad (P Q G a n c : Int) (w : World) (hP : 0 ≤ P) (hQ : 0 ≤ Q) (hG : 0 ≤ G) (hr : checkS P Q G P [a] = c) (hne : c ≠ 0) :
    Calls Try.prog 46 #[.agg #[.int .u64 P, .int .u64 Q, .int .u64 G], .int .u64 a, .int .i64 n] w fun e w' => e = .returned (.tuple #[.int .i64 0, .int .i64 c]) ∧ Below w.heap.size w w' := by
  have HR := Lib.hid hr
  clear hr
  have hnb : (c != 0) = true := by simpa using hne
  go_enter Try.func46, Try.ntmps46
  go_wp2_with fail
  go_region_held3 (fun w' => w'.cell? ⟨w.heap.size, 0, none⟩ = some (.int .u64 P) ∧ w'.cell? ⟨w.heap.size, 1, none⟩ = some (.int .u64 Q) ∧ w'.cell? ⟨w.heap.size, 2, none⟩ = some (.int .u64 G))
    (first | go_keep | (refine ⟨?_, ?_, ?_⟩ <;> (rw [hc _ _ (by simp <;> omega)]; go_simp)))
    (first | (go_at_call 50; refine (below_any _ _).mono ?_; rintro e w' ⟨rfl, rfl⟩) | (go_at_call 49; refine (check1 hP hQ hG HR.out (by go_simp) (by go_simp) (by simp <;> omega) (by simp <;> omega)).mono ?_; rintro e w1 ⟨rfl, hb1⟩; obtain ⟨hc, hf⟩ := bcell hb1; have hz := hb1.size))
  all_goals
    go_wp2
    go_ret2
    exact ⟨rfl, Below.trans (by repeat (first | exact Below.refl _ _ | apply Below.drew | (refine Below.alloc ?_ (by simp <;> omega) _))) (hb1.mono (by simp <;> omega))⟩


set_option maxHeartbeats 1000000 in
theorem log_far (P Q G a most : Int) (w : World) (hH : Has P Q G) (aP : a < P) (hm : most < 0 ∨ 4096 < most) :
    Calls Try.prog 46 #[.agg #[.int .u64 P, .int .u64 Q, .int .u64 G], .int .u64 a, .int .i64 most] w fun e w' => e = .returned (.tuple #[.int .i64 0, .int .i64 2]) ∧ Below w.heap.size w w' := by
  obtain ⟨p5, p3, hQ, pq, g2, gP⟩ := id hH
  have hP : 0 ≤ P := by omega
  have hG : 0 ≤ G := by omega
  have HR := Lib.hid (show checkS P Q G P [a] = 0 by rw [checkS, if_pos hH]; simp [okAll]; omega)
  have PQ := Lib.hid pq
  clear pq
  have HM := Lib.hid hm
  clear hm
  go_enter Try.func46, Try.ntmps46
  go_wp2_with fail
  go_region_held3 (fun w' => w'.cell? ⟨w.heap.size, 0, none⟩ = some (.int .u64 P) ∧ w'.cell? ⟨w.heap.size, 1, none⟩ = some (.int .u64 Q) ∧ w'.cell? ⟨w.heap.size, 2, none⟩ = some (.int .u64 G))
    (first | go_keep | (refine ⟨?_, ?_, ?_⟩ <;> (rw [hc _ _ (by simp <;> omega)]; go_simp)))
    (first | (go_at_call 50; refine (below_any _ _).mono ?_; rintro e w' ⟨rfl, rfl⟩) | (go_at_call 49; refine (check1 hP hQ hG HR.out (by go_simp) (by go_simp) (by simp <;> omega) (by simp <;> omega)).mono ?_; rintro e w1 ⟨rfl, hb1⟩; obtain ⟨hc, hf⟩ := bcell hb1; have hz := hb1.size))
  all_goals
    by_cases h0 : most < 0
    · go_wp2
      go_ret2
      exact ⟨rfl, Below.trans (by repeat (first | exact Below.refl _ _ | apply Below.drew | (refine Below.alloc ?_ (by simp <;> omega) _))) (hb1.mono (by simp <;> omega))⟩
    · have h1 : 4096 < most := HM.out.resolve_left h0
      go_wp2
      go_ret2
      exact ⟨rfl, Below.trans (by repeat (first | exact Below.refl _ _ | apply Below.drew | (refine Below.alloc ?_ (by simp <;> omega) _))) (hb1.mono (by simp <;> omega))⟩

set_option maxHeartbeats 1000000 in
theorem log_ok (P Q G a most n c : Int) (w : World) (hH : Has P Q G) (aP : a < P) (m0 : 0 ≤ most) (m1 : most ≤ 4096) (hv : LogS P G a most n c) :
    Calls Try.prog 46 #[.agg #[.int .u64 P, .int .u64 Q, .int .u64 G], .int .u64 a, .int .i64 most] w fun e w' => e = .returned (.tuple #[.int .i64 n, .int .i64 c]) ∧ Below w.heap.size w w' := by
  obtain ⟨p5, p3, hQ, pq, g2, gP⟩ := id hH
  have hP : 0 ≤ P := by omega
  have hG : 0 ≤ G := by omega
  have HR := Lib.hid (show checkS P Q G P [a] = 0 by rw [checkS, if_pos hH]; simp [okAll]; omega)
  have PQ := Lib.hid pq
  clear pq
  have HV := Lib.hid hv
  clear hv
  go_enter Try.func46, Try.ntmps46
  go_wp2_with fail
  go_region_held3 (fun w' => w'.cell? ⟨w.heap.size, 0, none⟩ = some (.int .u64 P) ∧ w'.cell? ⟨w.heap.size, 1, none⟩ = some (.int .u64 Q) ∧ w'.cell? ⟨w.heap.size, 2, none⟩ = some (.int .u64 G))
    (first | go_keep | (refine ⟨?_, ?_, ?_⟩ <;> (rw [hc _ _ (by simp <;> omega)]; go_simp)))
    (first | (go_at_call 50; refine (below_any _ _).mono ?_; rintro e w' ⟨rfl, rfl⟩) | (go_at_call 49; refine (check1 hP hQ hG HR.out (by go_simp) (by go_simp) (by simp <;> omega) (by simp <;> omega)).mono ?_; rintro e w1 ⟨rfl, hb1⟩; obtain ⟨hc, hf⟩ := bcell hb1; have hz := hb1.size))
  all_goals
    have HB : Below w.heap.size w w1 := Below.trans (by repeat (first | exact Below.refl _ _ | apply Below.drew | (refine Below.alloc ?_ (by simp <;> omega) _))) (hb1.mono (by simp <;> omega))
    have g0' : w1.cell? ⟨w.heap.size, 0, none⟩ = some (.int .u64 P) := by rw [hc _ _ (by simp <;> omega)]; go_simp
    have g2' : w1.cell? ⟨w.heap.size, 2, none⟩ = some (.int .u64 G) := by rw [hc _ _ (by simp <;> omega)]; go_simp
    clear hc hf hz hb1
    go_wp2
    go_loop [9, 10] (fun b x => ∃ bb xx : Int, 0 ≤ xx ∧ xx ≤ most + 1 ∧ Hid (powm G xx P = bb ∧ ∀ y, 0 ≤ y → y < xx → powm G y P ≠ a) ∧ 0 ≤ bb ∧ bb < P ∧ b = .int .u64 bb ∧ x = .int .i64 xx) (fun _ x => (most + 1 - intOf x).toNat)
    case atStart =>
      refine ⟨1, 0, by omega, by omega, ⟨?_, fun y y0 y1 => by omega⟩, by omega, by omega, rfl, rfl⟩
      rw [powm_zero]; exact Int.emod_eq_of_lt (by omega) (by omega)
    case round =>
      obtain ⟨b, x, x0, x1, HX, b0, b1, rfl, rfl⟩ := hrel
      obtain ⟨k1, k2⟩ := mul_bound b0 (by omega) hG (by omega)
      have k3 : 0 ≤ b * G % P := Int.emod_nonneg _ (by omega)
      have k4 : b * G % P < P := Int.emod_lt_of_pos _ (by omega)
      by_cases hx : x ≤ most
      · by_cases hb : b = a
        · have hbb : (b == a) = true := by simpa using hb
          have HZ := Lib.hid (show x = n ∧ (0 : Int) = c from LogS.eq (P := P) (G := G) (a := a) (most := most) (.inl ⟨x0, hx, HX.out.1.trans hb, HX.out.2, rfl⟩) HV.out)
          clear hb
          go_wp2
          go_ret2
          exact ⟨ret_two HZ.out.1 HZ.out.2, HB⟩
        · have hbb : (b == a) = false := by simpa using hb
          have HN : Hid (powm G (x + 1) P = b * G % P ∧ ∀ y, 0 ≤ y → y < x + 1 → powm G y P ≠ a) := ⟨by rw [← HX.out.1, powm_succ x0 hG], fun y y0 y1 => by
            by_cases e : y = x
            · rw [e, HX.out.1]; exact hb
            · exact HX.out.2 y y0 (by omega)⟩
          clear hb
          go_wp2
          go_round
          case rel => exact ⟨_, x + 1, by omega, by omega, HN, k3, k4, rfl, rfl⟩
          case measure => simp [intOf]; omega
      · have HZ := Lib.hid (show 0 = n ∧ (6 : Int) = c from LogS.eq (P := P) (G := G) (a := a) (most := most) (.inr ⟨fun y y0 y1 => HX.out.2 y y0 (by omega), rfl, rfl⟩) HV.out)
        go_wp2
        go_ret2
        exact ⟨ret_two HZ.out.1 HZ.out.2, HB⟩

end Go.Proofs.Ytffefhldfnfohaa
