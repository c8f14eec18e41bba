/- The group functions that begin with check: Pow, Mul, Inv, Member, AddExp, SubExp, MulExp, InvExp. -/
import Derived.Test.YtlbldpkgnonbpaaDoorBas
import Derived.Deep.RegionHeld3
namespace Go.Proofs.YtlbldpkgnonbpaaDoor
open Go.RowKit Num

set_option maxHeartbeats 1000000 in
theorem pow_bad (P Q G a x c : Int) (w : World) (hP : 0 ≤ P) (hQ : 0 ≤ Q) (hG : 0 ≤ G) (hr : checkS P Q G P [a] = c) (hne : c ≠ 0) :
    Calls Tryd.prog 72 #[.agg #[.int .u64 P, .int .u64 Q, .int .u64 G], .int .u64 a, .int .u64 x] w fun e w' => e = .returned (.tuple #[.int .u64 0, .int .i64 c]) ∧ Below w.heap.size w w' := by
  have HR := Lib.hid hr
  clear hr
  have hnb : (c != 0) = true := by simpa using hne
  go_enter Tryd.func72, Tryd.ntmps72
  go_wp2_with fail
  go_region_held3 (fun w' => w'.cell? ⟨w.heap.size, 0, none⟩ = some (.int .u64 P) ∧ w'.cell? ⟨w.heap.size, 1, none⟩ = some (.int .u64 Q) ∧ w'.cell? ⟨w.heap.size, 2, none⟩ = some (.int .u64 G))
    (first | go_keep | (refine ⟨?_, ?_, ?_⟩ <;> (rw [hc _ _ (by simp <;> omega)]; go_simp)))
    (first | (go_at_call 84; refine (below_any _ _).mono ?_; rintro e w' ⟨rfl, rfl⟩) | (go_at_call 83; refine (check1 hP hQ hG HR.out (by go_simp) (by go_simp) (by simp <;> omega) (by simp <;> omega)).mono ?_; rintro e w1 ⟨rfl, hb1⟩; obtain ⟨hc, hf⟩ := bcell hb1; have hz := hb1.size))
  all_goals
    go_wp2
    go_ret2
    exact ⟨rfl, Below.trans (by repeat (first | exact Below.refl _ _ | apply Below.drew | (refine Below.alloc ?_ (by simp <;> omega) _))) (hb1.mono (by simp <;> omega))⟩

set_option maxHeartbeats 1000000 in
theorem pow_ok (P Q G a x : Int) (v : Int) (w : World) (hH : Has P Q G) (a0 : 0 ≤ a) (aP : a < P) (hx : U64 x) (hv : powm a x P = v) :
    Calls Tryd.prog 72 #[.agg #[.int .u64 P, .int .u64 Q, .int .u64 G], .int .u64 a, .int .u64 x] w fun e w' => e = .returned (.tuple #[.int .u64 v, .int .i64 0]) ∧ Below w.heap.size w w' := by
  obtain ⟨p5, p3, hQ, pq, g2, gP⟩ := id hH
  have hP : 0 ≤ P := by omega
  have hG : 0 ≤ G := by omega
  have HR := Lib.hid (show checkS P Q G P [a] = 0 by rw [checkS, if_pos hH]; simp [okAll]; omega)
  have HV := Lib.hid hv
  clear hv
  have HX := Lib.hid hx
  clear hx
  have q3 : Q < 1073741824 := by omega
  have PQ := Lib.hid pq
  clear pq
  go_enter Tryd.func72, Tryd.ntmps72
  go_wp2_with fail
  go_region_held3 (fun w' => w'.cell? ⟨w.heap.size, 0, none⟩ = some (.int .u64 P) ∧ w'.cell? ⟨w.heap.size, 1, none⟩ = some (.int .u64 Q) ∧ w'.cell? ⟨w.heap.size, 2, none⟩ = some (.int .u64 G))
    (first | go_keep | (refine ⟨?_, ?_, ?_⟩ <;> (rw [hc _ _ (by simp <;> omega)]; go_simp)))
    (first | (go_at_call 84; refine (below_any _ _).mono ?_; rintro e w' ⟨rfl, rfl⟩) | (go_at_call 83; refine (check1 hP hQ hG HR.out (by go_simp) (by go_simp) (by simp <;> omega) (by simp <;> omega)).mono ?_; rintro e w1 ⟨rfl, hb1⟩; obtain ⟨hc, hf⟩ := bcell hb1; have hz := hb1.size))
  all_goals
    go_wp2_with (go_at_call 85; refine (power_any a x P v _ a0 HX.out (by omega) p3 HV.out).mono ?_; rintro e w' ⟨rfl, rfl⟩)
    go_ret2
    exact ⟨rfl, Below.trans (by repeat (first | exact Below.refl _ _ | apply Below.drew | (refine Below.alloc ?_ (by simp <;> omega) _))) (hb1.mono (by simp <;> omega))⟩

set_option maxHeartbeats 1000000 in
theorem mul_bad (P Q G a b c : Int) (w : World) (hP : 0 ≤ P) (hQ : 0 ≤ Q) (hG : 0 ≤ G) (hr : checkS P Q G P [a, b] = c) (hne : c ≠ 0) :
    Calls Tryd.prog 73 #[.agg #[.int .u64 P, .int .u64 Q, .int .u64 G], .int .u64 a, .int .u64 b] w fun e w' => e = .returned (.tuple #[.int .u64 0, .int .i64 c]) ∧ Below w.heap.size w w' := by
  have HR := Lib.hid hr
  clear hr
  have hnb : (c != 0) = true := by simpa using hne
  go_enter Tryd.func73, Tryd.ntmps73
  go_wp2_with fail
  go_region_held3 (fun w' => w'.cell? ⟨w.heap.size, 0, none⟩ = some (.int .u64 P) ∧ w'.cell? ⟨w.heap.size, 1, none⟩ = some (.int .u64 Q) ∧ w'.cell? ⟨w.heap.size, 2, none⟩ = some (.int .u64 G))
    (first | go_keep | (refine ⟨?_, ?_, ?_⟩ <;> (rw [hc _ _ (by simp <;> omega)]; go_simp)))
    (first | (go_at_call 84; refine (below_any _ _).mono ?_; rintro e w' ⟨rfl, rfl⟩) | (go_at_call 83; refine (check2 hP hQ hG HR.out (by go_simp) (by go_simp) (by go_simp) (by simp <;> omega) (by simp <;> omega)).mono ?_; rintro e w1 ⟨rfl, hb1⟩; obtain ⟨hc, hf⟩ := bcell hb1; have hz := hb1.size))
  all_goals
    go_wp2
    go_ret2
    exact ⟨rfl, Below.trans (by repeat (first | exact Below.refl _ _ | apply Below.drew | (refine Below.alloc ?_ (by simp <;> omega) _))) (hb1.mono (by simp <;> omega))⟩

set_option maxHeartbeats 1000000 in
theorem mul_ok (P Q G a b : Int) (v : Int) (w : World) (hH : Has P Q G) (a0 : 0 ≤ a) (aP : a < P) (b0 : 0 ≤ b) (bP : b < P) (hv : a * b % P = v) :
    Calls Tryd.prog 73 #[.agg #[.int .u64 P, .int .u64 Q, .int .u64 G], .int .u64 a, .int .u64 b] w fun e w' => e = .returned (.tuple #[.int .u64 v, .int .i64 0]) ∧ Below w.heap.size w w' := by
  obtain ⟨p5, p3, hQ, pq, g2, gP⟩ := id hH
  have hP : 0 ≤ P := by omega
  have hG : 0 ≤ G := by omega
  have HR := Lib.hid (show checkS P Q G P [a, b] = 0 by rw [checkS, if_pos hH]; simp [okAll]; omega)
  have HV := Lib.hid hv
  clear hv
  obtain ⟨m1, m2⟩ := mul_bound a0 (by omega) b0 (by omega)
  have q3 : Q < 1073741824 := by omega
  have PQ := Lib.hid pq
  clear pq
  go_enter Tryd.func73, Tryd.ntmps73
  go_wp2_with fail
  go_region_held3 (fun w' => w'.cell? ⟨w.heap.size, 0, none⟩ = some (.int .u64 P) ∧ w'.cell? ⟨w.heap.size, 1, none⟩ = some (.int .u64 Q) ∧ w'.cell? ⟨w.heap.size, 2, none⟩ = some (.int .u64 G))
    (first | go_keep | (refine ⟨?_, ?_, ?_⟩ <;> (rw [hc _ _ (by simp <;> omega)]; go_simp)))
    (first | (go_at_call 84; refine (below_any _ _).mono ?_; rintro e w' ⟨rfl, rfl⟩) | (go_at_call 83; refine (check2 hP hQ hG HR.out (by go_simp) (by go_simp) (by go_simp) (by simp <;> omega) (by simp <;> omega)).mono ?_; rintro e w1 ⟨rfl, hb1⟩; obtain ⟨hc, hf⟩ := bcell hb1; have hz := hb1.size))
  all_goals
    go_wp2
    go_ret2
    exact ⟨ret_two HV.out rfl, Below.trans (by repeat (first | exact Below.refl _ _ | apply Below.drew | (refine Below.alloc ?_ (by simp <;> omega) _))) (hb1.mono (by simp <;> omega))⟩



set_option maxHeartbeats 1000000 in
theorem addExp_bad (P Q G x y c : Int) (w : World) (hP : 0 ≤ P) (hQ : 0 ≤ Q) (hG : 0 ≤ G) (hr : checkS P Q G Q [x, y] = c) (hne : c ≠ 0) :
    Calls Tryd.prog 52 #[.agg #[.int .u64 P, .int .u64 Q, .int .u64 G], .int .u64 x, .int .u64 y] w fun e w' => e = .returned (.tuple #[.int .u64 0, .int .i64 c]) ∧ Below w.heap.size w w' := by
  have HR := Lib.hid hr
  clear hr
  have hnb : (c != 0) = true := by simpa using hne
  go_enter Tryd.func52, Tryd.ntmps52
  go_wp2_with fail
  go_region_held3 (fun w' => w'.cell? ⟨w.heap.size, 0, none⟩ = some (.int .u64 P) ∧ w'.cell? ⟨w.heap.size, 1, none⟩ = some (.int .u64 Q) ∧ w'.cell? ⟨w.heap.size, 2, none⟩ = some (.int .u64 G))
    (first | go_keep | (refine ⟨?_, ?_, ?_⟩ <;> (rw [hc _ _ (by simp <;> omega)]; go_simp)))
    (first | (go_at_call 84; refine (below_any _ _).mono ?_; rintro e w' ⟨rfl, rfl⟩) | (go_at_call 83; refine (check2 hP hQ hG HR.out (by go_simp) (by go_simp) (by go_simp) (by simp <;> omega) (by simp <;> omega)).mono ?_; rintro e w1 ⟨rfl, hb1⟩; obtain ⟨hc, hf⟩ := bcell hb1; have hz := hb1.size))
  all_goals
    go_wp2
    go_ret2
    exact ⟨rfl, Below.trans (by repeat (first | exact Below.refl _ _ | apply Below.drew | (refine Below.alloc ?_ (by simp <;> omega) _))) (hb1.mono (by simp <;> omega))⟩

set_option maxHeartbeats 1000000 in
theorem addExp_ok (P Q G x y : Int) (v : Int) (w : World) (hH : Has P Q G) (a0 : 0 ≤ x) (aP : x < Q) (b0 : 0 ≤ y) (bP : y < Q) (hv : (x + y) % Q = v) :
    Calls Tryd.prog 52 #[.agg #[.int .u64 P, .int .u64 Q, .int .u64 G], .int .u64 x, .int .u64 y] w fun e w' => e = .returned (.tuple #[.int .u64 v, .int .i64 0]) ∧ Below w.heap.size w w' := by
  obtain ⟨p5, p3, hQ, pq, g2, gP⟩ := id hH
  have hP : 0 ≤ P := by omega
  have hG : 0 ≤ G := by omega
  have HR := Lib.hid (show checkS P Q G Q [x, y] = 0 by rw [checkS, if_pos hH]; simp [okAll]; omega)
  have HV := Lib.hid hv
  clear hv
  have q3 : Q < 1073741824 := by omega
  have PQ := Lib.hid pq
  clear pq
  go_enter Tryd.func52, Tryd.ntmps52
  go_wp2_with fail
  go_region_held3 (fun w' => w'.cell? ⟨w.heap.size, 0, none⟩ = some (.int .u64 P) ∧ w'.cell? ⟨w.heap.size, 1, none⟩ = some (.int .u64 Q) ∧ w'.cell? ⟨w.heap.size, 2, none⟩ = some (.int .u64 G))
    (first | go_keep | (refine ⟨?_, ?_, ?_⟩ <;> (rw [hc _ _ (by simp <;> omega)]; go_simp)))
    (first | (go_at_call 84; refine (below_any _ _).mono ?_; rintro e w' ⟨rfl, rfl⟩) | (go_at_call 83; refine (check2 hP hQ hG HR.out (by go_simp) (by go_simp) (by go_simp) (by simp <;> omega) (by simp <;> omega)).mono ?_; rintro e w1 ⟨rfl, hb1⟩; obtain ⟨hc, hf⟩ := bcell hb1; have hz := hb1.size))
  all_goals
    go_wp2
    go_ret2
    exact ⟨ret_two HV.out rfl, Below.trans (by repeat (first | exact Below.refl _ _ | apply Below.drew | (refine Below.alloc ?_ (by simp <;> omega) _))) (hb1.mono (by simp <;> omega))⟩

set_option maxHeartbeats 1000000 in
theorem subExp_bad (P Q G x y c : Int) (w : World) (hP : 0 ≤ P) (hQ : 0 ≤ Q) (hG : 0 ≤ G) (hr : checkS P Q G Q [x, y] = c) (hne : c ≠ 0) :
    Calls Tryd.prog 80 #[.agg #[.int .u64 P, .int .u64 Q, .int .u64 G], .int .u64 x, .int .u64 y] w fun e w' => e = .returned (.tuple #[.int .u64 0, .int .i64 c]) ∧ Below w.heap.size w w' := by
  have HR := Lib.hid hr
  clear hr
  have hnb : (c != 0) = true := by simpa using hne
  go_enter Tryd.func80, Tryd.ntmps80
  go_wp2_with fail
  go_region_held3 (fun w' => w'.cell? ⟨w.heap.size, 0, none⟩ = some (.int .u64 P) ∧ w'.cell? ⟨w.heap.size, 1, none⟩ = some (.int .u64 Q) ∧ w'.cell? ⟨w.heap.size, 2, none⟩ = some (.int .u64 G))
    (first | go_keep | (refine ⟨?_, ?_, ?_⟩ <;> (rw [hc _ _ (by simp <;> omega)]; go_simp)))
    (first | (go_at_call 84; refine (below_any _ _).mono ?_; rintro e w' ⟨rfl, rfl⟩) | (go_at_call 83; refine (check2 hP hQ hG HR.out (by go_simp) (by go_simp) (by go_simp) (by simp <;> omega) (by simp <;> omega)).mono ?_; rintro e w1 ⟨rfl, hb1⟩; obtain ⟨hc, hf⟩ := bcell hb1; have hz := hb1.size))
  all_goals
    go_wp2
    go_ret2
    exact ⟨rfl, Below.trans (by repeat (first | exact Below.refl _ _ | apply Below.drew | (refine Below.alloc ?_ (by simp <;> omega) _))) (hb1.mono (by simp <;> omega))⟩

set_option maxHeartbeats 1000000 in
theorem subExp_ok (P Q G x y : Int) (v : Int) (w : World) (hH : Has P Q G) (a0 : 0 ≤ x) (aP : x < Q) (b0 : 0 ≤ y) (bP : y < Q) (hv : (x - y) % Q = v) :
    Calls Tryd.prog 80 #[.agg #[.int .u64 P, .int .u64 Q, .int .u64 G], .int .u64 x, .int .u64 y] w fun e w' => e = .returned (.tuple #[.int .u64 v, .int .i64 0]) ∧ Below w.heap.size w w' := by
  obtain ⟨p5, p3, hQ, pq, g2, gP⟩ := id hH
  have hP : 0 ≤ P := by omega
  have hG : 0 ≤ G := by omega
  have HR := Lib.hid (show checkS P Q G Q [x, y] = 0 by rw [checkS, if_pos hH]; simp [okAll]; omega)
  have HV := Lib.hid (show (x + Q - y) % Q = v by rw [show x + Q - y = x - y + Q by omega, Int.add_emod_right]; exact hv)
  clear hv
  have q3 : Q < 1073741824 := by omega
  have PQ := Lib.hid pq
  clear pq
  go_enter Tryd.func80, Tryd.ntmps80
  go_wp2_with fail
  go_region_held3 (fun w' => w'.cell? ⟨w.heap.size, 0, none⟩ = some (.int .u64 P) ∧ w'.cell? ⟨w.heap.size, 1, none⟩ = some (.int .u64 Q) ∧ w'.cell? ⟨w.heap.size, 2, none⟩ = some (.int .u64 G))
    (first | go_keep | (refine ⟨?_, ?_, ?_⟩ <;> (rw [hc _ _ (by simp <;> omega)]; go_simp)))
    (first | (go_at_call 84; refine (below_any _ _).mono ?_; rintro e w' ⟨rfl, rfl⟩) | (go_at_call 83; refine (check2 hP hQ hG HR.out (by go_simp) (by go_simp) (by go_simp) (by simp <;> omega) (by simp <;> omega)).mono ?_; rintro e w1 ⟨rfl, hb1⟩; obtain ⟨hc, hf⟩ := bcell hb1; have hz := hb1.size))
  all_goals
    go_wp2
    go_ret2
    exact ⟨ret_two HV.out rfl, Below.trans (by repeat (first | exact Below.refl _ _ | apply Below.drew | (refine Below.alloc ?_ (by simp <;> omega) _))) (hb1.mono (by simp <;> omega))⟩

set_option maxHeartbeats 1000000 in
theorem mulExp_bad (P Q G x y c : Int) (w : World) (hP : 0 ≤ P) (hQ : 0 ≤ Q) (hG : 0 ≤ G) (hr : checkS P Q G Q [x, y] = c) (hne : c ≠ 0) :
    Calls Tryd.prog 102 #[.agg #[.int .u64 P, .int .u64 Q, .int .u64 G], .int .u64 x, .int .u64 y] w fun e w' => e = .returned (.tuple #[.int .u64 0, .int .i64 c]) ∧ Below w.heap.size w w' := by
  have HR := Lib.hid hr
  clear hr
  have hnb : (c != 0) = true := by simpa using hne
  go_enter Tryd.func102, Tryd.ntmps102
  go_wp2_with fail
  go_region_held3 (fun w' => w'.cell? ⟨w.heap.size, 0, none⟩ = some (.int .u64 P) ∧ w'.cell? ⟨w.heap.size, 1, none⟩ = some (.int .u64 Q) ∧ w'.cell? ⟨w.heap.size, 2, none⟩ = some (.int .u64 G))
    (first | go_keep | (refine ⟨?_, ?_, ?_⟩ <;> (rw [hc _ _ (by simp <;> omega)]; go_simp)))
    (first | (go_at_call 84; refine (below_any _ _).mono ?_; rintro e w' ⟨rfl, rfl⟩) | (go_at_call 83; refine (check2 hP hQ hG HR.out (by go_simp) (by go_simp) (by go_simp) (by simp <;> omega) (by simp <;> omega)).mono ?_; rintro e w1 ⟨rfl, hb1⟩; obtain ⟨hc, hf⟩ := bcell hb1; have hz := hb1.size))
  all_goals
    go_wp2
    go_ret2
    exact ⟨rfl, Below.trans (by repeat (first | exact Below.refl _ _ | apply Below.drew | (refine Below.alloc ?_ (by simp <;> omega) _))) (hb1.mono (by simp <;> omega))⟩

set_option maxHeartbeats 1000000 in
theorem mulExp_ok (P Q G x y : Int) (v : Int) (w : World) (hH : Has P Q G) (a0 : 0 ≤ x) (aP : x < Q) (b0 : 0 ≤ y) (bP : y < Q) (hv : x * y % Q = v) :
    Calls Tryd.prog 102 #[.agg #[.int .u64 P, .int .u64 Q, .int .u64 G], .int .u64 x, .int .u64 y] w fun e w' => e = .returned (.tuple #[.int .u64 v, .int .i64 0]) ∧ Below w.heap.size w w' := by
  obtain ⟨p5, p3, hQ, pq, g2, gP⟩ := id hH
  have hP : 0 ≤ P := by omega
  have hG : 0 ≤ G := by omega
  have HR := Lib.hid (show checkS P Q G Q [x, y] = 0 by rw [checkS, if_pos hH]; simp [okAll]; omega)
  have HV := Lib.hid hv
  clear hv
  obtain ⟨m1, m2⟩ := mul_bound a0 (by omega) b0 (by omega)
  have q3 : Q < 1073741824 := by omega
  have PQ := Lib.hid pq
  clear pq
  go_enter Tryd.func102, Tryd.ntmps102
  go_wp2_with fail
  go_region_held3 (fun w' => w'.cell? ⟨w.heap.size, 0, none⟩ = some (.int .u64 P) ∧ w'.cell? ⟨w.heap.size, 1, none⟩ = some (.int .u64 Q) ∧ w'.cell? ⟨w.heap.size, 2, none⟩ = some (.int .u64 G))
    (first | go_keep | (refine ⟨?_, ?_, ?_⟩ <;> (rw [hc _ _ (by simp <;> omega)]; go_simp)))
    (first | (go_at_call 84; refine (below_any _ _).mono ?_; rintro e w' ⟨rfl, rfl⟩) | (go_at_call 83; refine (check2 hP hQ hG HR.out (by go_simp) (by go_simp) (by go_simp) (by simp <;> omega) (by simp <;> omega)).mono ?_; rintro e w1 ⟨rfl, hb1⟩; obtain ⟨hc, hf⟩ := bcell hb1; have hz := hb1.size))
  all_goals
    go_wp2
    go_ret2
    exact ⟨ret_two HV.out rfl, Below.trans (by repeat (first | exact Below.refl _ _ | apply Below.drew | (refine Below.alloc ?_ (by simp <;> omega) _))) (hb1.mono (by simp <;> omega))⟩

end Go.Proofs.YtlbldpkgnonbpaaDoor
