/- The reference functions of chapter 30 that begin with asked. -/
import Derived.Test.YtjdfjgphjdcnmaaRefB
import Derived.Test.YtjdfjgphjdcnmaaGen
namespace Go.Proofs.Ytjdfjgphjdcnmaa
open Go.RowKit Num

theorem checkS_padP (P Q G a : Int) : checkS P Q G P [a, 0] = checkS P Q G P [a] := by
  by_cases h : Has P Q G
  · have : 0 < P := by have := h.1; omega
    unfold checkS okAll; simp [this]
  · unfold checkS; simp [h]
theorem checkS_padQ (P Q G a : Int) : checkS P Q G Q [a, 0] = checkS P Q G Q [a] := by
  by_cases h : Has P Q G
  · have : 0 < Q := by have := h.1; have := h.2.2.2.1; omega
    unfold checkS okAll; simp [this]
  · unfold checkS; simp [h]
theorem checkS_has {P Q G L : Int} (h : Has P Q G) : checkS P Q G L [] = 0 := by rw [checkS, if_pos h]; simp [okAll]
theorem checkS_not {P Q G L : Int} {xs : List Int} (h : ¬ Has P Q G) : checkS P Q G L xs = 300 := by rw [checkS, if_neg h]


set_option maxHeartbeats 800000 in
theorem rPow_gen {P Q G a x v c : Int} (hP : 0 ≤ P) (hG : 0 ≤ G) (w : World) (a0 : 0 ≤ a) (hx : U64 x) (hr : RetS (checkS P Q G P [a]) (powm a x P) v c) :
    Calls Try.prog 35 #[.agg #[.int .u64 P, .int .u64 Q, .int .u64 G], .int .u64 a, .int .u64 x] w fun e w' => e = .returned (.tuple #[.int .u64 v, .int .i64 c]) ∧ Below w.heap.size w w' := by
  rcases hr with ⟨h, hv, rfl⟩ | ⟨h, rfl, hc⟩
  · obtain ⟨hH, hlt⟩ := checkS_zero h
    have aP := hlt a (by simp)
    have HV := Lib.hid hv
    clear hv
    have HX := Lib.hid hx
    clear hx
    have HK := Lib.hid (show checkS P Q G P [a, 0] = 0 by rw [checkS_padP P Q G a]; exact h)
    obtain ⟨p5, p3, hQ', pq, g2, gP⟩ := id hH
    have q3 : Q < 1073741824 := by omega
    have q2 : 2 ≤ Q := by omega
    clear hH hlt h pq
    go_enter Try.func35, Try.ntmps35
    go_wp2_with fail
    refine (asked_any P Q G P a 0 0 _ hP hG HK.out).mono ?_
    rintro e w1 ⟨rfl, hb1⟩
    obtain ⟨hc1, hf1⟩ := bcell hb1
    have hz1 := hb1.size
    go_wp2_with fail
    refine (rPower_any P a x v _ (by omega) p3 a0 (by omega) HX.out HV.out.symm).mono ?_
    rintro e w2 ⟨rfl, rfl⟩
    go_wp2_with fail
    go_ret2
    exact ⟨rfl, ((Below.refl _ _).alloc (Nat.le_refl _) _).trans (hb1.mono (by simp))⟩
  · have HK := Lib.hid (show checkS P Q G P [a, 0] = c by rw [hc, checkS_padP P Q G a])
    have hnb : (c != 0) = true := by simpa [hc] using h
    clear hc h
    go_enter Try.func35, Try.ntmps35
    go_wp2_with fail
    refine (asked_any P Q G P a 0 c _ hP hG HK.out).mono ?_
    rintro e w1 ⟨rfl, hb1⟩
    obtain ⟨hc1, hf1⟩ := bcell hb1
    have hz1 := hb1.size
    go_wp2_with fail
    go_ret2
    exact ⟨rfl, ((Below.refl _ _).alloc (Nat.le_refl _) _).trans (hb1.mono (by simp))⟩

set_option maxHeartbeats 800000 in
theorem rMul_gen {P Q G a b v c : Int} (hP : 0 ≤ P) (hG : 0 ≤ G) (w : World) (a0 : 0 ≤ a) (b0 : 0 ≤ b) (hr : RetS (checkS P Q G P [a, b]) (a * b % P) v c) :
    Calls Try.prog 37 #[.agg #[.int .u64 P, .int .u64 Q, .int .u64 G], .int .u64 a, .int .u64 b] w fun e w' => e = .returned (.tuple #[.int .u64 v, .int .i64 c]) ∧ Below w.heap.size w w' := by
  rcases hr with ⟨h, hv, rfl⟩ | ⟨h, rfl, hc⟩
  · obtain ⟨hH, hlt⟩ := checkS_zero h
    have aP := hlt a (by simp)
    have bP := hlt b (by simp)
    have HV := Lib.hid hv
    clear hv
    obtain ⟨m1, m2⟩ := mul_bound a0 (by have := hH.2.1; omega) b0 (by have := hH.2.1; omega)
    have HK := Lib.hid (show checkS P Q G P [a, b] = 0 by exact h)
    obtain ⟨p5, p3, hQ', pq, g2, gP⟩ := id hH
    have q3 : Q < 1073741824 := by omega
    have q2 : 2 ≤ Q := by omega
    clear hH hlt h pq
    go_enter Try.func37, Try.ntmps37
    go_wp2_with fail
    refine (asked_any P Q G P a b 0 _ hP hG HK.out).mono ?_
    rintro e w1 ⟨rfl, hb1⟩
    obtain ⟨hc1, hf1⟩ := bcell hb1
    have hz1 := hb1.size
    go_wp2_with fail
    go_ret2
    exact ⟨ret_two HV.out.symm rfl, ((Below.refl _ _).alloc (Nat.le_refl _) _).trans (hb1.mono (by simp))⟩
  · have HK := Lib.hid (show checkS P Q G P [a, b] = c by rw [hc])
    have hnb : (c != 0) = true := by simpa [hc] using h
    clear hc h
    go_enter Try.func37, Try.ntmps37
    go_wp2_with fail
    refine (asked_any P Q G P a b c _ hP hG HK.out).mono ?_
    rintro e w1 ⟨rfl, hb1⟩
    obtain ⟨hc1, hf1⟩ := bcell hb1
    have hz1 := hb1.size
    go_wp2_with fail
    go_ret2
    exact ⟨rfl, ((Below.refl _ _).alloc (Nat.le_refl _) _).trans (hb1.mono (by simp))⟩

set_option maxHeartbeats 800000 in
theorem rInv_gen {P Q G a v c : Int} (hP : 0 ≤ P) (hG : 0 ≤ G) (w : World) (a0 : 0 ≤ a) (hr : RetI (checkS P Q G P [a]) P a v c) :
    Calls Try.prog 39 #[.agg #[.int .u64 P, .int .u64 Q, .int .u64 G], .int .u64 a] w fun e w' => e = .returned (.tuple #[.int .u64 v, .int .i64 c]) ∧ Below w.heap.size w w' := by
  rcases hr with ⟨h, ok, hv, hc0⟩ | ⟨h, rfl, hc⟩
  · obtain ⟨hH, hlt⟩ := checkS_zero h
    have aP := hlt a (by simp)
    have HV := Lib.hid hv
    clear hv
    have HC := Lib.hid hc0
    clear hc0
    have HK := Lib.hid (show checkS P Q G P [a, 0] = 0 by rw [checkS_padP P Q G a]; exact h)
    obtain ⟨p5, p3, hQ', pq, g2, gP⟩ := id hH
    have q3 : Q < 1073741824 := by omega
    have q2 : 2 ≤ Q := by omega
    clear hH hlt h pq
    go_enter Try.func39, Try.ntmps39
    go_wp2_with fail
    refine (asked_any P Q G P a 0 0 _ hP hG HK.out).mono ?_
    rintro e w1 ⟨rfl, hb1⟩
    obtain ⟨hc1, hf1⟩ := bcell hb1
    have hz1 := hb1.size
    cases ok
    · have HZ := Lib.hid (HV.out.resolve_left (by simp)).2.1
      go_wp2_with fail
      refine (under_any P a v false _ a0 aP (by omega) (by omega) HV.out).mono ?_
      rintro e w2 ⟨rfl, hb2⟩
      go_wp2_with fail
      go_ret2
      exact ⟨ret_two HZ.out.symm HC.out.symm, (((Below.refl _ _).alloc (Nat.le_refl _) _).trans (hb1.mono (by simp))).trans (hb2.mono (by have h9 := hz1; simp only [World.size_alloc] at h9; omega))⟩
    · go_wp2_with fail
      refine (under_any P a v true _ a0 aP (by omega) (by omega) HV.out).mono ?_
      rintro e w2 ⟨rfl, hb2⟩
      go_wp2_with fail
      go_ret2
      exact ⟨ret_two rfl HC.out.symm, (((Below.refl _ _).alloc (Nat.le_refl _) _).trans (hb1.mono (by simp))).trans (hb2.mono (by have h9 := hz1; simp only [World.size_alloc] at h9; omega))⟩
  · have HK := Lib.hid (show checkS P Q G P [a, 0] = c by rw [hc, checkS_padP P Q G a])
    have hnb : (c != 0) = true := by simpa [hc] using h
    clear hc h
    go_enter Try.func39, Try.ntmps39
    go_wp2_with fail
    refine (asked_any P Q G P a 0 c _ hP hG HK.out).mono ?_
    rintro e w1 ⟨rfl, hb1⟩
    obtain ⟨hc1, hf1⟩ := bcell hb1
    have hz1 := hb1.size
    go_wp2_with fail
    go_ret2
    exact ⟨rfl, ((Below.refl _ _).alloc (Nat.le_refl _) _).trans (hb1.mono (by simp))⟩

set_option maxHeartbeats 800000 in
theorem rInvExp_gen {P Q G x v c : Int} (hP : 0 ≤ P) (hG : 0 ≤ G) (w : World) (a0 : 0 ≤ x) (hr : RetI (checkS P Q G Q [x]) Q x v c) :
    Calls Try.prog 33 #[.agg #[.int .u64 P, .int .u64 Q, .int .u64 G], .int .u64 x] w fun e w' => e = .returned (.tuple #[.int .u64 v, .int .i64 c]) ∧ Below w.heap.size w w' := by
  rcases hr with ⟨h, ok, hv, hc0⟩ | ⟨h, rfl, hc⟩
  · obtain ⟨hH, hlt⟩ := checkS_zero h
    have aP := hlt x (by simp)
    have HV := Lib.hid hv
    clear hv
    have HC := Lib.hid hc0
    clear hc0
    have HK := Lib.hid (show checkS P Q G Q [x, 0] = 0 by rw [checkS_padQ P Q G x]; exact h)
    obtain ⟨p5, p3, hQ', pq, g2, gP⟩ := id hH
    have q3 : Q < 1073741824 := by omega
    have q2 : 2 ≤ Q := by omega
    clear hH hlt h pq
    go_enter Try.func33, Try.ntmps33
    go_wp2_with fail
    refine (asked_any P Q G Q x 0 0 _ hP hG HK.out).mono ?_
    rintro e w1 ⟨rfl, hb1⟩
    obtain ⟨hc1, hf1⟩ := bcell hb1
    have hz1 := hb1.size
    cases ok
    · have HZ := Lib.hid (HV.out.resolve_left (by simp)).2.1
      go_wp2_with fail
      refine (under_any Q x v false _ a0 aP (by omega) (by omega) HV.out).mono ?_
      rintro e w2 ⟨rfl, hb2⟩
      go_wp2_with fail
      go_ret2
      exact ⟨ret_two HZ.out.symm HC.out.symm, (((Below.refl _ _).alloc (Nat.le_refl _) _).trans (hb1.mono (by simp))).trans (hb2.mono (by have h9 := hz1; simp only [World.size_alloc] at h9; omega))⟩
    · go_wp2_with fail
      refine (under_any Q x v true _ a0 aP (by omega) (by omega) HV.out).mono ?_
      rintro e w2 ⟨rfl, hb2⟩
      go_wp2_with fail
      go_ret2
      exact ⟨ret_two rfl HC.out.symm, (((Below.refl _ _).alloc (Nat.le_refl _) _).trans (hb1.mono (by simp))).trans (hb2.mono (by have h9 := hz1; simp only [World.size_alloc] at h9; omega))⟩
  · have HK := Lib.hid (show checkS P Q G Q [x, 0] = c by rw [hc, checkS_padQ P Q G x])
    have hnb : (c != 0) = true := by simpa [hc] using h
    clear hc h
    go_enter Try.func33, Try.ntmps33
    go_wp2_with fail
    refine (asked_any P Q G Q x 0 c _ hP hG HK.out).mono ?_
    rintro e w1 ⟨rfl, hb1⟩
    obtain ⟨hc1, hf1⟩ := bcell hb1
    have hz1 := hb1.size
    go_wp2_with fail
    go_ret2
    exact ⟨rfl, ((Below.refl _ _).alloc (Nat.le_refl _) _).trans (hb1.mono (by simp))⟩

set_option maxHeartbeats 800000 in
theorem rIn_gen {P Q G a : Int} {r : Bool} (hQ : 0 ≤ Q) (w : World) (hH : Has P Q G) (a0 : 0 ≤ a) (aP : a < P) (hr : r = true ↔ Mem P Q a) :
    Calls Try.prog 62 #[.agg #[.int .u64 P, .int .u64 Q, .int .u64 G], .int .u64 a] w fun e w' => e = .returned (.bool r) ∧ Below w.heap.size w w' := by
  obtain ⟨p5, p3, hQ', pq, g2, gP⟩ := id hH
  have HX := Lib.hid (U64.of_lt hQ (by omega))
  have HM := Lib.hid hr
  clear hr pq hH
  by_cases h0 : 0 < a
  · have HZ := Lib.hid (show (powm a Q P == 1) = r by rw [Bool.eq_iff_iff, HM.out]; simp [Mem, h0, aP])
    go_enter Try.func62, Try.ntmps62
    go_wp2_with fail
    refine (rPower_any P a Q _ _ (by omega) p3 a0 (by omega) HX.out rfl).mono ?_
    rintro e w2 ⟨rfl, rfl⟩
    go_wp2_with fail
    go_ret
    exact ⟨ret_bool HZ.out, (Below.refl _ _).alloc (Nat.le_refl _) _⟩
  · have HZ := Lib.hid (show false = r by rw [Bool.eq_iff_iff, HM.out]; simp [Mem, h0])
    go_enter Try.func62, Try.ntmps62
    go_wp2_with fail
    go_ret
    exact ⟨ret_bool HZ.out, (Below.refl _ _).alloc (Nat.le_refl _) _⟩
set_option maxHeartbeats 800000 in
theorem rSum_gen {P Q G x y v : Int} (w : World) (hH : Has P Q G) (x0 : 0 ≤ x) (xQ : x < Q) (y0 : 0 ≤ y) (yQ : y < Q) (hv : (x + y) % Q = v) :
    Calls Try.prog 56 #[.agg #[.int .u64 P, .int .u64 Q, .int .u64 G], .int .u64 x, .int .u64 y] w fun e w' => e = .returned (.int .u64 v) ∧ Below w.heap.size w w' := by
  obtain ⟨p5, p3, hQ', pq, g2, gP⟩ := id hH
  have q3 : Q < 1073741824 := by omega
  have HV := Lib.hid hv
  clear hv pq hH
  go_enter Try.func56, Try.ntmps56
  go_wp2_with fail
  go_ret
  exact ⟨ret_int HV.out, (Below.refl _ _).alloc (Nat.le_refl _) _⟩
set_option maxHeartbeats 800000 in
theorem rDiff_gen {P Q G x y v : Int} (w : World) (hH : Has P Q G) (x0 : 0 ≤ x) (xQ : x < Q) (y0 : 0 ≤ y) (yQ : y < Q) (hv : (x - y) % Q = v) :
    Calls Try.prog 57 #[.agg #[.int .u64 P, .int .u64 Q, .int .u64 G], .int .u64 x, .int .u64 y] w fun e w' => e = .returned (.int .u64 v) ∧ Below w.heap.size w w' := by
  obtain ⟨p5, p3, hQ', pq, g2, gP⟩ := id hH
  have q3 : Q < 1073741824 := by omega
  have HV := Lib.hid (show (x + Q - y) % Q = v by rw [show x + Q - y = x - y + Q by omega, Int.add_emod_right]; exact hv)
  clear hv pq hH
  go_enter Try.func57, Try.ntmps57
  go_wp2_with fail
  go_ret
  exact ⟨ret_int HV.out, (Below.refl _ _).alloc (Nat.le_refl _) _⟩
set_option maxHeartbeats 800000 in
theorem rProduct_gen {P Q G x y v : Int} (w : World) (hH : Has P Q G) (x0 : 0 ≤ x) (xQ : x < Q) (y0 : 0 ≤ y) (yQ : y < Q) (hv : x * y % Q = v) :
    Calls Try.prog 58 #[.agg #[.int .u64 P, .int .u64 Q, .int .u64 G], .int .u64 x, .int .u64 y] w fun e w' => e = .returned (.int .u64 v) ∧ Below w.heap.size w w' := by
  obtain ⟨p5, p3, hQ', pq, g2, gP⟩ := id hH
  have q3 : Q < 1073741824 := by omega
  obtain ⟨m1, m2⟩ := mul_bound x0 (by omega) y0 (by omega)
  have HV := Lib.hid hv
  clear hv pq hH
  go_enter Try.func58, Try.ntmps58
  go_wp2_with fail
  go_ret
  exact ⟨ret_int HV.out, (Below.refl _ _).alloc (Nat.le_refl _) _⟩

set_option maxHeartbeats 800000 in
theorem rMember_gen {P Q G a c : Int} (hP : 0 ≤ P) (hG : 0 ≤ G) (w : World) {r : Bool} (a0 : 0 ≤ a) (hr : RetB (checkS P Q G P [a]) (Mem P Q a) r c) :
    Calls Try.prog 41 #[.agg #[.int .u64 P, .int .u64 Q, .int .u64 G], .int .u64 a] w fun e w' => e = .returned (.tuple #[.bool r, .int .i64 c]) ∧ Below w.heap.size w w' := by
  rcases hr with ⟨h, hv, rfl⟩ | ⟨h, rfl, hc⟩
  · obtain ⟨hH, hlt⟩ := checkS_zero h
    have aP := hlt a (by simp)
    have HV := Lib.hid hv
    clear hv
    have HH := Lib.hid hH
    have HK := Lib.hid (show checkS P Q G P [a, 0] = 0 by rw [checkS_padP P Q G a]; exact h)
    obtain ⟨p5, p3, hQ', pq, g2, gP⟩ := id hH
    have q3 : Q < 1073741824 := by omega
    have q2 : 2 ≤ Q := by omega
    clear hH hlt h pq
    go_enter Try.func41, Try.ntmps41
    go_wp2_with fail
    refine (asked_any P Q G P a 0 0 _ hP hG HK.out).mono ?_
    rintro e w1 ⟨rfl, hb1⟩
    obtain ⟨hc1, hf1⟩ := bcell hb1
    have hz1 := hb1.size
    go_wp2_with fail
    refine (rIn_gen hQ' _ HH.out a0 aP HV.out).mono ?_
    rintro e w2 ⟨rfl, hb2⟩
    go_wp2_with fail
    go_ret2
    exact ⟨rfl, (((Below.refl _ _).alloc (Nat.le_refl _) _).trans (hb1.mono (by simp))).trans (hb2.mono (by have h9 := hz1; simp only [World.size_alloc] at h9; omega))⟩
  · have HK := Lib.hid (show checkS P Q G P [a, 0] = c by rw [hc, checkS_padP P Q G a])
    have hnb : (c != 0) = true := by simpa [hc] using h
    clear hc h
    go_enter Try.func41, Try.ntmps41
    go_wp2_with fail
    refine (asked_any P Q G P a 0 c _ hP hG HK.out).mono ?_
    rintro e w1 ⟨rfl, hb1⟩
    obtain ⟨hc1, hf1⟩ := bcell hb1
    have hz1 := hb1.size
    go_wp2_with fail
    go_ret2
    exact ⟨rfl, ((Below.refl _ _).alloc (Nat.le_refl _) _).trans (hb1.mono (by simp))⟩

set_option maxHeartbeats 800000 in
theorem rAddExp_gen {P Q G x y v c : Int} (hP : 0 ≤ P) (hG : 0 ≤ G) (w : World) (x0 : 0 ≤ x) (y0 : 0 ≤ y) (hr : RetS (checkS P Q G Q [x, y]) ((x + y) % Q) v c) :
    Calls Try.prog 27 #[.agg #[.int .u64 P, .int .u64 Q, .int .u64 G], .int .u64 x, .int .u64 y] w fun e w' => e = .returned (.tuple #[.int .u64 v, .int .i64 c]) ∧ Below w.heap.size w w' := by
  rcases hr with ⟨h, hv, rfl⟩ | ⟨h, rfl, hc⟩
  · obtain ⟨hH, hlt⟩ := checkS_zero h
    have xQ := hlt x (by simp)
    have yQ := hlt y (by simp)
    have HV := Lib.hid hv
    clear hv
    have HH := Lib.hid hH
    have HK := Lib.hid (show checkS P Q G Q [x, y] = 0 by exact h)
    obtain ⟨p5, p3, hQ', pq, g2, gP⟩ := id hH
    have q3 : Q < 1073741824 := by omega
    have q2 : 2 ≤ Q := by omega
    clear hH hlt h pq
    go_enter Try.func27, Try.ntmps27
    go_wp2_with fail
    refine (asked_any P Q G Q x y 0 _ hP hG HK.out).mono ?_
    rintro e w1 ⟨rfl, hb1⟩
    obtain ⟨hc1, hf1⟩ := bcell hb1
    have hz1 := hb1.size
    go_wp2_with fail
    refine (rSum_gen (v := v) _ HH.out x0 xQ y0 yQ (by first | exact HV.out.symm | (have := HV.out; omega))).mono ?_
    rintro e w2 ⟨rfl, hb2⟩
    go_wp2_with fail
    go_ret2
    exact ⟨rfl, (((Below.refl _ _).alloc (Nat.le_refl _) _).trans (hb1.mono (by simp))).trans (hb2.mono (by have h9 := hz1; simp only [World.size_alloc] at h9; omega))⟩
  · have HK := Lib.hid (show checkS P Q G Q [x, y] = c by rw [hc])
    have hnb : (c != 0) = true := by simpa [hc] using h
    clear hc h
    go_enter Try.func27, Try.ntmps27
    go_wp2_with fail
    refine (asked_any P Q G Q x y c _ hP hG HK.out).mono ?_
    rintro e w1 ⟨rfl, hb1⟩
    obtain ⟨hc1, hf1⟩ := bcell hb1
    have hz1 := hb1.size
    go_wp2_with fail
    go_ret2
    exact ⟨rfl, ((Below.refl _ _).alloc (Nat.le_refl _) _).trans (hb1.mono (by simp))⟩

set_option maxHeartbeats 800000 in
theorem rSubExp_gen {P Q G x y v c : Int} (hP : 0 ≤ P) (hG : 0 ≤ G) (w : World) (x0 : 0 ≤ x) (y0 : 0 ≤ y) (hr : RetS (checkS P Q G Q [x, y]) ((x - y) % Q) v c) :
    Calls Try.prog 29 #[.agg #[.int .u64 P, .int .u64 Q, .int .u64 G], .int .u64 x, .int .u64 y] w fun e w' => e = .returned (.tuple #[.int .u64 v, .int .i64 c]) ∧ Below w.heap.size w w' := by
  rcases hr with ⟨h, hv, rfl⟩ | ⟨h, rfl, hc⟩
  · obtain ⟨hH, hlt⟩ := checkS_zero h
    have xQ := hlt x (by simp)
    have yQ := hlt y (by simp)
    have HV := Lib.hid hv
    clear hv
    have HH := Lib.hid hH
    have HK := Lib.hid (show checkS P Q G Q [x, y] = 0 by exact h)
    obtain ⟨p5, p3, hQ', pq, g2, gP⟩ := id hH
    have q3 : Q < 1073741824 := by omega
    have q2 : 2 ≤ Q := by omega
    clear hH hlt h pq
    go_enter Try.func29, Try.ntmps29
    go_wp2_with fail
    refine (asked_any P Q G Q x y 0 _ hP hG HK.out).mono ?_
    rintro e w1 ⟨rfl, hb1⟩
    obtain ⟨hc1, hf1⟩ := bcell hb1
    have hz1 := hb1.size
    go_wp2_with fail
    refine (rDiff_gen (v := v) _ HH.out x0 xQ y0 yQ (by first | exact HV.out.symm | (have := HV.out; omega))).mono ?_
    rintro e w2 ⟨rfl, hb2⟩
    go_wp2_with fail
    go_ret2
    exact ⟨rfl, (((Below.refl _ _).alloc (Nat.le_refl _) _).trans (hb1.mono (by simp))).trans (hb2.mono (by have h9 := hz1; simp only [World.size_alloc] at h9; omega))⟩
  · have HK := Lib.hid (show checkS P Q G Q [x, y] = c by rw [hc])
    have hnb : (c != 0) = true := by simpa [hc] using h
    clear hc h
    go_enter Try.func29, Try.ntmps29
    go_wp2_with fail
    refine (asked_any P Q G Q x y c _ hP hG HK.out).mono ?_
    rintro e w1 ⟨rfl, hb1⟩
    obtain ⟨hc1, hf1⟩ := bcell hb1
    have hz1 := hb1.size
    go_wp2_with fail
    go_ret2
    exact ⟨rfl, ((Below.refl _ _).alloc (Nat.le_refl _) _).trans (hb1.mono (by simp))⟩

set_option maxHeartbeats 800000 in
theorem rMulExp_gen {P Q G x y v c : Int} (hP : 0 ≤ P) (hG : 0 ≤ G) (w : World) (x0 : 0 ≤ x) (y0 : 0 ≤ y) (hr : RetS (checkS P Q G Q [x, y]) ((x * y) % Q) v c) :
    Calls Try.prog 31 #[.agg #[.int .u64 P, .int .u64 Q, .int .u64 G], .int .u64 x, .int .u64 y] w fun e w' => e = .returned (.tuple #[.int .u64 v, .int .i64 c]) ∧ Below w.heap.size w w' := by
  rcases hr with ⟨h, hv, rfl⟩ | ⟨h, rfl, hc⟩
  · obtain ⟨hH, hlt⟩ := checkS_zero h
    have xQ := hlt x (by simp)
    have yQ := hlt y (by simp)
    have HV := Lib.hid hv
    clear hv
    have HH := Lib.hid hH
    have HK := Lib.hid (show checkS P Q G Q [x, y] = 0 by exact h)
    obtain ⟨p5, p3, hQ', pq, g2, gP⟩ := id hH
    have q3 : Q < 1073741824 := by omega
    have q2 : 2 ≤ Q := by omega
    clear hH hlt h pq
    go_enter Try.func31, Try.ntmps31
    go_wp2_with fail
    refine (asked_any P Q G Q x y 0 _ hP hG HK.out).mono ?_
    rintro e w1 ⟨rfl, hb1⟩
    obtain ⟨hc1, hf1⟩ := bcell hb1
    have hz1 := hb1.size
    go_wp2_with fail
    refine (rProduct_gen (v := v) _ HH.out x0 xQ y0 yQ (by first | exact HV.out.symm | (have := HV.out; omega))).mono ?_
    rintro e w2 ⟨rfl, hb2⟩
    go_wp2_with fail
    go_ret2
    exact ⟨rfl, (((Below.refl _ _).alloc (Nat.le_refl _) _).trans (hb1.mono (by simp))).trans (hb2.mono (by have h9 := hz1; simp only [World.size_alloc] at h9; omega))⟩
  · have HK := Lib.hid (show checkS P Q G Q [x, y] = c by rw [hc])
    have hnb : (c != 0) = true := by simpa [hc] using h
    clear hc h
    go_enter Try.func31, Try.ntmps31
    go_wp2_with fail
    refine (asked_any P Q G Q x y c _ hP hG HK.out).mono ?_
    rintro e w1 ⟨rfl, hb1⟩
    obtain ⟨hc1, hf1⟩ := bcell hb1
    have hz1 := hb1.size
    go_wp2_with fail
    go_ret2
    exact ⟨rfl, ((Below.refl _ _).alloc (Nat.le_refl _) _).trans (hb1.mono (by simp))⟩

end Go.Proofs.Ytjdfjgphjdcnmaa
