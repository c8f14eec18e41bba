/- The group functions that begin with check: Pow, Mul, Inv, Member, AddExp, SubExp, MulExp, InvExp. -/
import Derived.Test.YtembepajnigfiaaBas
import Derived.Deep.RegionHeld3
namespace Go.Proofs.Ytembepajnigfiaa
open Go.RowKit Num


set_option maxHeartbeats 1000000 in
theorem mul_bad (P Q G a b c : Int) (w : World) (hP : 0 ≤ P) (hQ : 0 ≤ Q) (hG : 0 ≤ G) (hr : checkS P Q G P [a, b] = c) (hne : c ≠ 0) :
    Calls Try.prog 26 #[.agg #[.int .u64 P, .int .u64 Q, .int .u64 G], .int .u64 a, .int .u64 b] w fun e w' => e = .returned (.tuple #[.int .u64 0, .int .i64 c]) ∧ Below w.heap.size w w' := by
  have HR := Lib.hid hr
  clear hr
  have hnb : (c != 0) = true := by simpa using hne
  go_enter Try.func26, Try.ntmps26
  go_wp2_with fail
  go_region_held3 (fun w' => w'.cell? ⟨w.heap.size, 0, none⟩ = some (.int .u64 P) ∧ w'.cell? ⟨w.heap.size, 1, none⟩ = some (.int .u64 Q) ∧ w'.cell? ⟨w.heap.size, 2, none⟩ = some (.int .u64 G))
    (first | go_keep | (refine ⟨?_, ?_, ?_⟩ <;> (rw [hc _ _ (by simp <;> omega)]; go_simp)))
    (first | (go_at_call 30; refine (below_any _ _).mono ?_; rintro e w' ⟨rfl, rfl⟩) | (go_at_call 29; refine (check2 hP hQ hG HR.out (by go_simp) (by go_simp) (by go_simp) (by simp <;> omega) (by simp <;> omega)).mono ?_; rintro e w1 ⟨rfl, hb1⟩; obtain ⟨hc, hf⟩ := bcell hb1; have hz := hb1.size))
  all_goals
    go_wp2
    go_ret2
    exact ⟨rfl, Below.trans (by repeat (first | exact Below.refl _ _ | apply Below.drew | (refine Below.alloc ?_ (by simp <;> omega) _))) (hb1.mono (by simp <;> omega))⟩

set_option maxHeartbeats 1000000 in
theorem mul_ok (P Q G a b : Int) (v : Int) (w : World) (hH : Has P Q G) (a0 : 0 ≤ a) (aP : a < P) (b0 : 0 ≤ b) (bP : b < P) (hv : a * b % P = v) :
    Calls Try.prog 26 #[.agg #[.int .u64 P, .int .u64 Q, .int .u64 G], .int .u64 a, .int .u64 b] w fun e w' => e = .returned (.tuple #[.int .u64 v, .int .i64 0]) ∧ Below w.heap.size w w' := by
  obtain ⟨p5, p3, hQ, pq, g2, gP⟩ := id hH
  have hP : 0 ≤ P := by omega
  have hG : 0 ≤ G := by omega
  have HR := Lib.hid (show checkS P Q G P [a, b] = 0 by rw [checkS, if_pos hH]; simp [okAll]; omega)
  have HV := Lib.hid hv
  clear hv
  obtain ⟨m1, m2⟩ := mul_bound a0 (by omega) b0 (by omega)
  have q3 : Q < 1073741824 := by omega
  have PQ := Lib.hid pq
  clear pq
  go_enter Try.func26, Try.ntmps26
  go_wp2_with fail
  go_region_held3 (fun w' => w'.cell? ⟨w.heap.size, 0, none⟩ = some (.int .u64 P) ∧ w'.cell? ⟨w.heap.size, 1, none⟩ = some (.int .u64 Q) ∧ w'.cell? ⟨w.heap.size, 2, none⟩ = some (.int .u64 G))
    (first | go_keep | (refine ⟨?_, ?_, ?_⟩ <;> (rw [hc _ _ (by simp <;> omega)]; go_simp)))
    (first | (go_at_call 30; refine (below_any _ _).mono ?_; rintro e w' ⟨rfl, rfl⟩) | (go_at_call 29; refine (check2 hP hQ hG HR.out (by go_simp) (by go_simp) (by go_simp) (by simp <;> omega) (by simp <;> omega)).mono ?_; rintro e w1 ⟨rfl, hb1⟩; obtain ⟨hc, hf⟩ := bcell hb1; have hz := hb1.size))
  all_goals
    go_wp2
    go_ret2
    exact ⟨ret_two HV.out rfl, Below.trans (by repeat (first | exact Below.refl _ _ | apply Below.drew | (refine Below.alloc ?_ (by simp <;> omega) _))) (hb1.mono (by simp <;> omega))⟩






end Go.Proofs.Ytembepajnigfiaa
