/- group.Member and group.Log. -/
import Derived.Test.YtlbldpkgnonbpaaDoorGrp
namespace Go.Proofs.YtlbldpkgnonbpaaDoor
open Go.RowKit Num

set_option maxHeartbeats 1000000 in
theorem member_bad (P Q G a c : Int) (w : World) (hP : 0 ≤ P) (hQ : 0 ≤ Q) (hG : 0 ≤ G) (hr : checkS P Q G P [a] = c) (hne : c ≠ 0) :
    Calls Tryd.prog 53 #[.agg #[.int .u64 P, .int .u64 Q, .int .u64 G], .int .u64 a] w fun e w' => e = .returned (.tuple #[.bool false, .int .i64 c]) ∧ Below w.heap.size w w' := by
  have HR := Lib.hid hr
  clear hr
  have hnb : (c != 0) = true := by simpa using hne
  go_enter Tryd.func53, Tryd.ntmps53
  go_wp2_with fail
  go_region_held3 (fun w' => w'.cell? ⟨w.heap.size, 0, none⟩ = some (.int .u64 P) ∧ w'.cell? ⟨w.heap.size, 1, none⟩ = some (.int .u64 Q) ∧ w'.cell? ⟨w.heap.size, 2, none⟩ = some (.int .u64 G))
    (first | go_keep | (refine ⟨?_, ?_, ?_⟩ <;> (rw [hc _ _ (by simp <;> omega)]; go_simp)))
    (first | (go_at_call 84; refine (below_any _ _).mono ?_; rintro e w' ⟨rfl, rfl⟩) | (go_at_call 83; refine (check1 hP hQ hG HR.out (by go_simp) (by go_simp) (by simp <;> omega) (by simp <;> omega)).mono ?_; rintro e w1 ⟨rfl, hb1⟩; obtain ⟨hc, hf⟩ := bcell hb1; have hz := hb1.size))
  all_goals
    go_wp2
    go_ret2
    exact ⟨rfl, Below.trans (by repeat (first | exact Below.refl _ _ | apply Below.drew | (refine Below.alloc ?_ (by simp <;> omega) _))) (hb1.mono (by simp <;> omega))⟩

set_option maxHeartbeats 1000000 in
theorem member_ok (P Q G a : Int) (r : Bool) (w : World) (hH : Has P Q G) (a0 : 0 ≤ a) (aP : a < P) (hr : r = true ↔ Mem P Q a) :
    Calls Tryd.prog 53 #[.agg #[.int .u64 P, .int .u64 Q, .int .u64 G], .int .u64 a] w fun e w' => e = .returned (.tuple #[.bool r, .int .i64 0]) ∧ Below w.heap.size w w' := by
  obtain ⟨p5, p3, hQ, pq, g2, gP⟩ := id hH
  have hP : 0 ≤ P := by omega
  have hG : 0 ≤ G := by omega
  have HR := Lib.hid (show checkS P Q G P [a] = 0 by rw [checkS, if_pos hH]; simp [okAll]; omega)
  have HM := Lib.hid hr
  clear hr
  have HX := Lib.hid (U64.of_lt hQ (by omega))
  have q3 : Q < 1073741824 := by omega
  have PQ := Lib.hid pq
  clear pq
  go_enter Tryd.func53, Tryd.ntmps53
  go_wp2_with fail
  go_region_held3 (fun w' => w'.cell? ⟨w.heap.size, 0, none⟩ = some (.int .u64 P) ∧ w'.cell? ⟨w.heap.size, 1, none⟩ = some (.int .u64 Q) ∧ w'.cell? ⟨w.heap.size, 2, none⟩ = some (.int .u64 G))
    (first | go_keep | (refine ⟨?_, ?_, ?_⟩ <;> (rw [hc _ _ (by simp <;> omega)]; go_simp)))
    (first | (go_at_call 84; refine (below_any _ _).mono ?_; rintro e w' ⟨rfl, rfl⟩) | (go_at_call 83; refine (check1 hP hQ hG HR.out (by go_simp) (by go_simp) (by simp <;> omega) (by simp <;> omega)).mono ?_; rintro e w1 ⟨rfl, hb1⟩; obtain ⟨hc, hf⟩ := bcell hb1; have hz := hb1.size))
  all_goals
    by_cases h0 : 0 < a
    · have HZ := Lib.hid (show (powm a Q P == 1) = r by rw [Bool.eq_iff_iff, HM.out]; simp [Mem, h0, aP])
      go_wp2_with (go_at_call 85; refine (power_any a Q P _ _ a0 HX.out (by omega) p3 rfl).mono ?_; rintro e w' ⟨rfl, rfl⟩)
      go_ret2
      exact ⟨ret_bi HZ.out rfl, Below.trans (by repeat (first | exact Below.refl _ _ | apply Below.drew | (refine Below.alloc ?_ (by simp <;> omega) _))) (hb1.mono (by simp <;> omega))⟩
    · have HZ := Lib.hid (show false = r by rw [Bool.eq_iff_iff, HM.out]; simp [Mem, h0])
      go_wp2
      go_ret2
      exact ⟨ret_bi HZ.out rfl, Below.trans (by repeat (first | exact Below.refl _ _ | apply Below.drew | (refine Below.alloc ?_ (by simp <;> omega) _))) (hb1.mono (by simp <;> omega))⟩


end Go.Proofs.YtlbldpkgnonbpaaDoor
