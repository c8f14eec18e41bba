/- The reference of chapter 30: Has, prime, Power, turned, under. -/
import Derived.Test.YtjfaaicbojnpaaaFromD
namespace Go.Proofs.Ytjfaaicbojnpaaa
open Go.RowKit Num

set_option maxHeartbeats 1000000 in
theorem rHas_any (P Q G : Int) (r : Bool) (w : World) (hP : 0 ≤ P) (hG : 0 ≤ G) (hr : r = decide (Has P Q G)) :
    Calls Try.prog 83 #[.agg #[.int .u64 P, .int .u64 Q, .int .u64 G]] w fun e w' => e = .returned (.bool r) ∧ Below w.heap.size w w' := by
  by_cases hH : Has P Q G
  · obtain ⟨p5, p3, _, pq, g2, gP⟩ := id hH
    have hm : (P % 2 == 1) = true := by simp; omega
    have hd : (Q == P / 2) = true := by simp; omega
    have HR := Lib.hid (show true = r by rw [hr]; simp [hH])
    clear hH pq hr
    go_enter Try.func83, Try.ntmps83
    go_wp2
    go_ret
    exact ⟨ret_bool HR.out, (Below.refl _ _).alloc (Nat.le_refl _) _⟩
  · have HR := Lib.hid (show false = r by rw [hr]; simp [hH])
    clear hr
    have h5 : P < 5 ∨ 2147483648 ≤ P ∨ P % 2 ≠ 1 ∨ Q ≠ P / 2 ∨ G < 2 ∨ P ≤ G := by
      unfold Has at hH; omega
    clear hH
    by_cases c1 : P < 5
    · clear h5
      go_enter Try.func83, Try.ntmps83
      go_wp2
      go_ret
      exact ⟨ret_bool HR.out, (Below.refl _ _).alloc (Nat.le_refl _) _⟩
    by_cases c2 : 2147483648 ≤ P
    · clear h5
      go_enter Try.func83, Try.ntmps83
      go_wp2
      go_ret
      exact ⟨ret_bool HR.out, (Below.refl _ _).alloc (Nat.le_refl _) _⟩
    by_cases c3 : P % 2 = 1
    case neg =>
      have hm : (P % 2 == 1) = false := by simpa using c3
      clear h5 c3
      go_enter Try.func83, Try.ntmps83
      go_wp2
      go_ret
      exact ⟨ret_bool HR.out, (Below.refl _ _).alloc (Nat.le_refl _) _⟩
    case pos =>
      have hm : (P % 2 == 1) = true := by simpa using c3
      by_cases c4 : Q = P / 2
      case neg =>
        have hd : (Q == P / 2) = false := by simpa using c4
        clear h5 c3 c4
        go_enter Try.func83, Try.ntmps83
        go_wp2
        go_ret
        exact ⟨ret_bool HR.out, (Below.refl _ _).alloc (Nat.le_refl _) _⟩
      case pos =>
        have hd : (Q == P / 2) = true := by simpa using c4
        have h6 : G < 2 ∨ P ≤ G := by omega
        clear h5 c3 c4
        by_cases c5 : G < 2
        · clear h6
          go_enter Try.func83, Try.ntmps83
          go_wp2
          go_ret
          exact ⟨ret_bool HR.out, (Below.refl _ _).alloc (Nat.le_refl _) _⟩
        · have c6 : P ≤ G := by omega
          have c7 : decide (G < P) = false := by simp; omega
          clear h6
          go_enter Try.func83, Try.ntmps83
          go_wp2
          go_ret
          exact ⟨ret_bool HR.out, (Below.refl _ _).alloc (Nat.le_refl _) _⟩


theorem powm_rec_odd {a x m : Int} (h0 : 0 ≤ x) (h : x % 2 = 1) : (powm a (x / 2) m * powm a (x / 2) m % m) * a % m = powm a x m := by
  have h1 : powm a x m = a ^ x.toNat % m := rfl
  rw [h1]
  apply Cg.emod_eq
  refine Cg.trans (((cg_emod m _).trans ((powm_cg a (x / 2) m).mul (powm_cg a (x / 2) m))).mul_right a) (Cg.of_eq ?_)
  rw [show x.toNat = (x / 2).toNat + (x / 2).toNat + 1 by omega, Int.pow_succ, Int.pow_add]
theorem powm_rec_even {a x m : Int} (h0 : 0 ≤ x) (h : x % 2 = 0) : powm a (x / 2) m * powm a (x / 2) m % m = powm a x m := by
  have h1 : powm a x m = a ^ x.toNat % m := rfl
  rw [h1]
  apply Cg.emod_eq
  refine Cg.trans ((powm_cg a (x / 2) m).mul (powm_cg a (x / 2) m)) (Cg.of_eq ?_)
  rw [show x.toNat = (x / 2).toNat + (x / 2).toNat by omega, Int.pow_add]

set_option maxHeartbeats 400000 in
theorem rPower_by (m a : Int) (m1 : 1 ≤ m) (m3 : m < 2147483648) (a0 : 0 ≤ a) (a1 : a < 2147483648) (k : Nat) : ∀ (x r : Int) (w : World), U64 x → x < 2 ^ k → powm a x m = r →
    Calls Try.prog 88 #[.int .u64 m, .int .u64 a, .int .u64 x] w fun e w' => e = .returned (.int .u64 r) ∧ w = w' := by
  induction k with
  | zero =>
    intro x r w hx x1 hr
    have x0 := hx.1
    obtain rfl : x = 0 := by simp at x1; omega
    have HR := Lib.hid (show 1 % m = r by rw [← hr, powm_zero])
    clear hr x1
    go_enter Try.func88, Try.ntmps88
    go_wp2_with fail
    go_ret
    exact ⟨ret_int HR.out, rfl⟩
  | succ k ih =>
    intro x r w hx x1 hr
    have x0 := hx.1
    have hhalf := hx.half
    have IH := Lib.hid ih
    clear ih
    have HR := Lib.hid hr
    clear hr
    by_cases hz : x = 0
    · subst hz
      have HZ := Lib.hid (show 1 % m = r by rw [← HR.out, powm_zero])
      clear x1
      go_enter Try.func88, Try.ntmps88
      go_wp2_with fail
      go_ret
      exact ⟨ret_int HZ.out, rfl⟩
    · have hzb : (x == 0) = false := by simpa using hz
      have HK := Lib.hid (show x / 2 < 2 ^ k by rw [Int.pow_succ] at x1; omega)
      have n0 : 0 ≤ powm a (x / 2) m := powm_nonneg (by omega)
      have n1 : powm a (x / 2) m < m := powm_lt (by omega)
      clear x1 hz
      obtain ⟨h, hh⟩ : ∃ h, powm a (x / 2) m = h := ⟨_, rfl⟩
      have HH := Lib.hid hh
      rw [hh] at n0 n1
      clear hh
      obtain ⟨k1, k2⟩ := mul_bound n0 (by omega) n0 (by omega)
      have q0 : 0 ≤ h * h % m := Int.emod_nonneg _ (by omega)
      have q1 : h * h % m < m := Int.emod_lt_of_pos _ (by omega)
      obtain ⟨k3, k4⟩ := mul_bound q0 (by omega) a0 a1
      by_cases hb : x % 2 = 1
      · have hbb : (x % 2 == 1) = true := by simpa using hb
        have HZ := Lib.hid (show (h * h % m) * a % m = r by rw [← HH.out, powm_rec_odd x0 hb]; exact HR.out)
        clear hb
        go_enter Try.func88, Try.ntmps88
        go_wp2_with fail
        refine (IH.out (x / 2) h _ (hx.mono (by omega) (by omega)) HK.out HH.out).mono ?_
        rintro e w1 ⟨rfl, rfl⟩
        go_wp2_with fail
        go_ret
        exact ⟨ret_int HZ.out, rfl⟩
      · have hbb : (x % 2 == 1) = false := by simpa using hb
        have HZ := Lib.hid (show h * h % m = r by rw [← HH.out, powm_rec_even x0 (by omega)]; exact HR.out)
        clear hb
        go_enter Try.func88, Try.ntmps88
        go_wp2_with fail
        refine (IH.out (x / 2) h _ (hx.mono (by omega) (by omega)) HK.out HH.out).mono ?_
        rintro e w1 ⟨rfl, rfl⟩
        go_wp2_with fail
        go_ret
        exact ⟨ret_int HZ.out, rfl⟩

theorem rPower_any (m a x r : Int) (w : World) (m1 : 1 ≤ m) (m3 : m < 2147483648) (a0 : 0 ≤ a) (a1 : a < 2147483648) (hx : U64 x) (hr : powm a x m = r) :
    Calls Try.prog 88 #[.int .u64 m, .int .u64 a, .int .u64 x] w fun e w' => e = .returned (.int .u64 r) ∧ w = w' :=
  rPower_by m a m1 m3 a0 a1 64 x r w hx (by have := hx.2; omega) hr

end Go.Proofs.Ytjfaaicbojnpaaa
