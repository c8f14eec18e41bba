/- The reference functions of chapter 30 that begin with asked. -/
import Derived.Test.YtffefhldfnfohaaRefB
import Derived.Test.YtffefhldfnfohaaGen
namespace Go.Proofs.Ytffefhldfnfohaa
open Go.RowKit Num

theorem checkS_padP (P Q G a : Int) : checkS P Q G P [a, 0] = checkS P Q G P [a] := by
  by_cases h : Has P Q G
  · have : 0 < P := by have := h.1; omega
    unfold checkS okAll; simp [this]
  · unfold checkS; simp [h]
theorem checkS_padQ (P Q G a : Int) : checkS P Q G Q [a, 0] = checkS P Q G Q [a] := by
  by_cases h : Has P Q G
  · have : 0 < Q := by have := h.1; have := h.2.2.2.1; omega
    unfold checkS okAll; simp [this]
  · unfold checkS; simp [h]
theorem checkS_has {P Q G L : Int} (h : Has P Q G) : checkS P Q G L [] = 0 := by rw [checkS, if_pos h]; simp [okAll]
theorem checkS_not {P Q G L : Int} {xs : List Int} (h : ¬ Has P Q G) : checkS P Q G L xs = 300 := by rw [checkS, if_neg h]




set_option maxHeartbeats 800000 in
theorem rInv_gen {P Q G a v c : Int} (hP : 0 ≤ P) (hG : 0 ≤ G) (w : World) (a0 : 0 ≤ a) (hr : RetI (checkS P Q G P [a]) P a v c) :
    Calls Try.prog 45 #[.agg #[.int .u64 P, .int .u64 Q, .int .u64 G], .int .u64 a] w fun e w' => e = .returned (.tuple #[.int .u64 v, .int .i64 c]) ∧ Below w.heap.size w w' := by
  rcases hr with ⟨h, ok, hv, hc0⟩ | ⟨h, rfl, hc⟩
  · obtain ⟨hH, hlt⟩ := checkS_zero h
    have aP := hlt a (by simp)
    have HV := Lib.hid hv
    clear hv
    have HC := Lib.hid hc0
    clear hc0
    have HK := Lib.hid (show checkS P Q G P [a, 0] = 0 by rw [checkS_padP P Q G a]; exact h)
    obtain ⟨p5, p3, hQ', pq, g2, gP⟩ := id hH
    have q3 : Q < 1073741824 := by omega
    have q2 : 2 ≤ Q := by omega
    clear hH hlt h pq
    go_enter Try.func45, Try.ntmps45
    go_wp2_with fail
    refine (asked_any P Q G P a 0 0 _ hP hG HK.out).mono ?_
    rintro e w1 ⟨rfl, hb1⟩
    obtain ⟨hc1, hf1⟩ := bcell hb1
    have hz1 := hb1.size
    cases ok
    · have HZ := Lib.hid (HV.out.resolve_left (by simp)).2.1
      go_wp2_with fail
      refine (under_any P a v false _ a0 aP (by omega) (by omega) HV.out).mono ?_
      rintro e w2 ⟨rfl, hb2⟩
      go_wp2_with fail
      go_ret2
      exact ⟨ret_two HZ.out.symm HC.out.symm, (((Below.refl _ _).alloc (Nat.le_refl _) _).trans (hb1.mono (by simp))).trans (hb2.mono (by have h9 := hz1; simp only [World.size_alloc] at h9; omega))⟩
    · go_wp2_with fail
      refine (under_any P a v true _ a0 aP (by omega) (by omega) HV.out).mono ?_
      rintro e w2 ⟨rfl, hb2⟩
      go_wp2_with fail
      go_ret2
      exact ⟨ret_two rfl HC.out.symm, (((Below.refl _ _).alloc (Nat.le_refl _) _).trans (hb1.mono (by simp))).trans (hb2.mono (by have h9 := hz1; simp only [World.size_alloc] at h9; omega))⟩
  · have HK := Lib.hid (show checkS P Q G P [a, 0] = c by rw [hc, checkS_padP P Q G a])
    have hnb : (c != 0) = true := by simpa [hc] using h
    clear hc h
    go_enter Try.func45, Try.ntmps45
    go_wp2_with fail
    refine (asked_any P Q G P a 0 c _ hP hG HK.out).mono ?_
    rintro e w1 ⟨rfl, hb1⟩
    obtain ⟨hc1, hf1⟩ := bcell hb1
    have hz1 := hb1.size
    go_wp2_with fail
    go_ret2
    exact ⟨rfl, ((Below.refl _ _).alloc (Nat.le_refl _) _).trans (hb1.mono (by simp))⟩


set_option maxHeartbeats 800000 in
theorem rIn_gen {P Q G a : Int} {r : Bool} (hQ : 0 ≤ Q) (w : World) (hH : Has P Q G) (a0 : 0 ≤ a) (aP : a < P) (hr : r = true ↔ Mem P Q a) :
    Calls Try.prog 56 #[.agg #[.int .u64 P, .int .u64 Q, .int .u64 G], .int .u64 a] w fun e w' => e = .returned (.bool r) ∧ Below w.heap.size w w' := by
  obtain ⟨p5, p3, hQ', pq, g2, gP⟩ := id hH
  have HX := Lib.hid (U64.of_lt hQ (by omega))
  have HM := Lib.hid hr
  clear hr pq hH
  by_cases h0 : 0 < a
  · have HZ := Lib.hid (show (powm a Q P == 1) = r by rw [Bool.eq_iff_iff, HM.out]; simp [Mem, h0, aP])
    go_enter Try.func56, Try.ntmps56
    go_wp2_with fail
    refine (rPower_any P a Q _ _ (by omega) p3 a0 (by omega) HX.out rfl).mono ?_
    rintro e w2 ⟨rfl, rfl⟩
    go_wp2_with fail
    go_ret
    exact ⟨ret_bool HZ.out, (Below.refl _ _).alloc (Nat.le_refl _) _⟩
  · have HZ := Lib.hid (show false = r by rw [Bool.eq_iff_iff, HM.out]; simp [Mem, h0])
    go_enter Try.func56, Try.ntmps56
    go_wp2_with fail
    go_ret
    exact ⟨ret_bool HZ.out, (Below.refl _ _).alloc (Nat.le_refl _) _⟩





end Go.Proofs.Ytffefhldfnfohaa
