/- group.power, group.prime, group.IsPrime: what they compute. -/
import Derived.Test.YtjfaaicbojnpaaaCheck
import Derived.Test.YtjfaaicbojnpaaaNum
namespace Go.Proofs.Ytjfaaicbojnpaaa
open Go.RowKit Num

set_option maxHeartbeats 400000 in
theorem power_any (a x m r : Int) (w : World) (h0 : 0 ≤ a) (h1 : U64 x) (h2 : 2 ≤ m) (h3 : m < 2147483648) (hr : powm a x m = r) :
    Calls Try.prog 80 #[.int .u64 a, .int .u64 x, .int .u64 m] w fun e w' => e = .returned (.int .u64 r) ∧ w = w' := by
  have HR := Lib.hid hr
  clear hr
  have h10 := h1.1
  obtain ⟨x0, hx0⟩ : ∃ x0, x0 = x := ⟨_, rfl⟩
  have hxx : x ≤ x0 := by omega
  have H1 : U64 x0 := by rw [hx0]; exact h1
  clear hx0 h1
  have q0 : 0 ≤ a % m := Int.emod_nonneg _ (by omega)
  have q1 : a % m < m := Int.emod_lt_of_pos _ (by omega)
  have HS : Hid (1 * powm (a % m) x m % m = r) := Lib.hid (by
    rw [Int.one_mul, powm_base (cg_emod m a), HR.out]; rw [← HR.out]; exact Int.emod_eq_of_lt (powm_nonneg (by omega)) (powm_lt (by omega)))
  go_enter Try.func80, Try.ntmps80
  go_wp2
  go_loop [0, 1, 7] (fun a x o => ∃ aa xx oo : Int, 0 ≤ aa ∧ aa < m ∧ 0 ≤ oo ∧ oo < m ∧ 0 ≤ xx ∧ xx ≤ x0 ∧ oo * powm aa xx m % m = r ∧ a = .int .u64 aa ∧ x = .int .u64 xx ∧ o = .int .u64 oo) (fun _ x _ => (intOf x).toNat)
  case atStart => exact ⟨a % m, x, 1, q0, q1, by omega, by omega, h10, hxx, HS.out, rfl, rfl, rfl⟩
  case round =>
    obtain ⟨aa, xx, oo, b1, b2, b3, b4, b5, b6, hs, rfl, rfl, rfl⟩ := hrel
    have HI := Lib.hid hs
    clear hs HS q0 q1
    obtain ⟨m1, m2⟩ := mul_bound b3 (by omega) b1 (by omega)
    obtain ⟨m3, m4⟩ := mul_bound b1 (by omega) b1 (by omega)
    have n0 : 0 ≤ aa * aa % m := Int.emod_nonneg _ (by omega)
    have n1 : aa * aa % m < m := Int.emod_lt_of_pos _ (by omega)
    have n2 : 0 ≤ oo * aa % m := Int.emod_nonneg _ (by omega)
    have n3 : oo * aa % m < m := Int.emod_lt_of_pos _ (by omega)
    by_cases hx : 0 < xx
    · by_cases hb : xx % 2 = 1
      · have ht : (bits BinOp.and IntKind.u64 xx 1 == 1) = true := by rw [(H1.mono b5 b6).and_one, hb]; rfl
        have HB := Lib.hid hb
        clear hb
        go_wp2
        go_round
        case rel => exact ⟨_, _, _, n0, n1, n2, n3, by omega, by omega, by rw [powm_odd b5 HB.out, HI.out], rfl, rfl, rfl⟩
        case measure => simp [intOf]; omega
      · have ht : (bits BinOp.and IntKind.u64 xx 1 == 1) = false := by rw [(H1.mono b5 b6).and_one]; simpa using hb
        have HB := Lib.hid hb
        clear hb
        go_wp2
        go_round
        case rel => exact ⟨_, _, _, n0, n1, b3, b4, by omega, by omega, by rw [powm_even b5 (by have := HB.out; omega), HI.out], rfl, rfl, rfl⟩
        case measure => simp [intOf]; omega
    · obtain rfl : xx = 0 := by omega
      go_wp2
      go_ret
      have e : oo = r := by
        rw [← HI.out, powm_zero, Int.emod_eq_of_lt (show (0:Int) ≤ 1 by omega) (show 1 < m by omega), Int.mul_one]
        exact (Int.emod_eq_of_lt b3 b4).symm
      exact ⟨ret_int e, rfl⟩

theorem sq_bound {d n : Int} (d0 : 0 ≤ d) (h : d * d ≤ n) (hn : n < 2147483648) : d ≤ 46340 := by
  rcases Int.lt_or_le 46340 d with h1 | h1
  · have : 46341 * 46341 ≤ d * d := Int.mul_le_mul (by omega) (by omega) (by omega) d0
    omega
  · exact h1

set_option maxHeartbeats 400000 in
theorem prime_any (n : Int) (r : Bool) (w : World) (h0 : 0 ≤ n) (h1 : n < 2147483648) (hr : r = true ↔ Pr n) :
    Calls Try.prog 81 #[.int .u64 n] w fun e w' => e = .returned (.bool r) ∧ w = w' := by
  have HR := Lib.hid hr
  clear hr
  by_cases h4 : n < 4
  · have hv : decide (1 < n) = r := by
      have h := HR.out
      rw [pr_small h4] at h
      rw [Bool.eq_iff_iff, h]; simp
    have HV := Lib.hid hv
    clear hv
    go_enter Try.func81, Try.ntmps81
    go_wp2
    go_ret
    exact ⟨ret_bool HV.out, rfl⟩
  by_cases he : n % 2 = 0
  · have hb : (n % 2 == 0) = true := by simpa using he
    have hv : r = false := by
      have h := HR.out
      cases r
      · rfl
      · exact absurd (h.1 rfl) (not_pr_even (by omega) he)
    have HV := Lib.hid hv
    clear hv he
    go_enter Try.func81, Try.ntmps81
    go_wp2
    go_ret
    exact ⟨ret_bool HV.out.symm, rfl⟩
  have hb : (n % 2 == 0) = false := by simpa using he
  have HE := Lib.hid he
  clear he
  go_enter Try.func81, Try.ntmps81
  go_wp2
  go_loop [3] (fun d => ∃ dd : Int, 3 ≤ dd ∧ dd ≤ 46343 ∧ dd % 2 = 1 ∧ Hid (Tried n dd) ∧ d = .int .u64 dd) (fun d => (46400 - intOf d).toNat)
  case atStart => exact ⟨3, by omega, by omega, by omega, Lib.hid (tried_three HE.out), rfl⟩
  case round =>
    obtain ⟨d, d3, dm, d2, HT, rfl⟩ := hrel
    have HD := Lib.hid d2
    clear d2 hb
    obtain ⟨m1, m2⟩ := mul_bound (a := d) (b := d) (by omega) (by omega) (by omega) (by omega)
    by_cases hd : d * d ≤ n
    · have hdb := sq_bound (by omega) hd h1
      by_cases hm : n % d = 0
      · have hmb : (n % d == 0) = true := by simpa using hm
        have HV := Lib.hid (not_pr_of_dvd (by omega) hm hd)
        clear hm
        go_wp2
        go_ret
        have hv : r = false := by
          have h := HR.out
          cases r
          · rfl
          · exact absurd (h.1 rfl) HV.out
        exact ⟨ret_bool hv.symm, rfl⟩
      · have hmb : (n % d == 0) = false := by simpa using hm
        have HV := Lib.hid (HT.out.next2 hm HD.out HE.out)
        clear hm
        go_wp2
        go_round
        case rel => exact ⟨d + 2, by omega, by omega, by have := HD.out; omega, HV, rfl⟩
        case measure => simp [intOf]; omega
    · have HV := Lib.hid (HT.out.pr (by omega) (by omega) (by omega))
      go_wp2
      go_ret
      exact ⟨ret_bool (HR.out.2 HV.out).symm, rfl⟩

end Go.Proofs.Ytjfaaicbojnpaaa
