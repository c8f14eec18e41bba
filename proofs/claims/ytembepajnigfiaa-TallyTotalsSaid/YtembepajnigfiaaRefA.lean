/- The reference of chapter 30: Has, prime, Power, turned, under. -/
import Derived.Test.YtembepajnigfiaaFromD
namespace Go.Proofs.Ytembepajnigfiaa
open Go.RowKit Num

set_option maxHeartbeats 1000000 in
theorem rHas_any (P Q G : Int) (r : Bool) (w : World) (hP : 0 ≤ P) (hG : 0 ≤ G) (hr : r = decide (Has P Q G)) :
    Calls Try.prog 27 #[.agg #[.int .u64 P, .int .u64 Q, .int .u64 G]] w fun e w' => e = .returned (.bool r) ∧ Below w.heap.size w w' := by
  by_cases hH : Has P Q G
  · obtain ⟨p5, p3, _, pq, g2, gP⟩ := id hH
    have hm : (P % 2 == 1) = true := by simp; omega
    have hd : (Q == P / 2) = true := by simp; omega
    have HR := Lib.hid (show true = r by rw [hr]; simp [hH])
    clear hH pq hr
    go_enter Try.func27, Try.ntmps27
    go_wp2
    go_ret
    exact ⟨ret_bool HR.out, (Below.refl _ _).alloc (Nat.le_refl _) _⟩
  · have HR := Lib.hid (show false = r by rw [hr]; simp [hH])
    clear hr
    have h5 : P < 5 ∨ 2147483648 ≤ P ∨ P % 2 ≠ 1 ∨ Q ≠ P / 2 ∨ G < 2 ∨ P ≤ G := by
      unfold Has at hH; omega
    clear hH
    by_cases c1 : P < 5
    · clear h5
      go_enter Try.func27, Try.ntmps27
      go_wp2
      go_ret
      exact ⟨ret_bool HR.out, (Below.refl _ _).alloc (Nat.le_refl _) _⟩
    by_cases c2 : 2147483648 ≤ P
    · clear h5
      go_enter Try.func27, Try.ntmps27
      go_wp2
      go_ret
      exact ⟨ret_bool HR.out, (Below.refl _ _).alloc (Nat.le_refl _) _⟩
    by_cases c3 : P % 2 = 1
    case neg =>
      have hm : (P % 2 == 1) = false := by simpa using c3
      clear h5 c3
      go_enter Try.func27, Try.ntmps27
      go_wp2
      go_ret
      exact ⟨ret_bool HR.out, (Below.refl _ _).alloc (Nat.le_refl _) _⟩
    case pos =>
      have hm : (P % 2 == 1) = true := by simpa using c3
      by_cases c4 : Q = P / 2
      case neg =>
        have hd : (Q == P / 2) = false := by simpa using c4
        clear h5 c3 c4
        go_enter Try.func27, Try.ntmps27
        go_wp2
        go_ret
        exact ⟨ret_bool HR.out, (Below.refl _ _).alloc (Nat.le_refl _) _⟩
      case pos =>
        have hd : (Q == P / 2) = true := by simpa using c4
        have h6 : G < 2 ∨ P ≤ G := by omega
        clear h5 c3 c4
        by_cases c5 : G < 2
        · clear h6
          go_enter Try.func27, Try.ntmps27
          go_wp2
          go_ret
          exact ⟨ret_bool HR.out, (Below.refl _ _).alloc (Nat.le_refl _) _⟩
        · have c6 : P ≤ G := by omega
          have c7 : decide (G < P) = false := by simp; omega
          clear h6
          go_enter Try.func27, Try.ntmps27
          go_wp2
          go_ret
          exact ⟨ret_bool HR.out, (Below.refl _ _).alloc (Nat.le_refl _) _⟩



end Go.Proofs.Ytembepajnigfiaa
