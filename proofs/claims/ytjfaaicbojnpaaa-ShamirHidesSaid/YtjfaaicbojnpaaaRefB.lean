/- The reference of chapter 30, further: turned, under, asked, and the functions of the chapter. -/
import Derived.Test.YtjfaaicbojnpaaaRefA
namespace Go.Proofs.Ytjfaaicbojnpaaa
open Go.RowKit Num

def TurnedP (a b : Int) (w : World) (e : Ending) (w' : World) : Prop := ∃ x y d, e = .returned (.tuple #[.int .i64 x, .int .i64 y, .int .i64 d]) ∧ Below w.heap.size w w' ∧ TurnS a b x y d

set_option maxHeartbeats 800000 in
theorem turned_by (k : Nat) : ∀ (a b : Int) (w : World), 0 ≤ a → a < 2147483648 → 0 ≤ b → b < 2147483648 → b ≤ k →
    Calls Try.prog 101 #[.int .i64 a, .int .i64 b] w (TurnedP a b w) := by
  induction k with
  | zero =>
    intro a b w a0 a1 b0 b1 hk
    obtain rfl : b = 0 := by omega
    go_enter Try.func101, Try.ntmps101
    go_wp2_with fail
    go_ret3
    exact ⟨1, 0, a, rfl, Below.refl _ _, TurnS.base a0⟩
  | succ k ih =>
    intro a b w a0 a1 b0 b1 hk
    have IH := Lib.hid ih
    clear ih
    by_cases hz : b = 0
    · subst hz
      clear hk
      go_enter Try.func101, Try.ntmps101
      go_wp2_with fail
      go_ret3
      exact ⟨1, 0, a, rfl, Below.refl _ _, TurnS.base a0⟩
    · have hzb : (b == 0) = false := by simpa using hz
      have bp : 0 < b := by omega
      have r0 : 0 ≤ a % b := Int.emod_nonneg _ (by omega)
      have r1 : a % b < b := Int.emod_lt_of_pos _ bp
      have q0 : 0 ≤ a / b := Int.ediv_nonneg a0 (by omega)
      have q1 : a / b ≤ a := Int.ediv_le_self _ a0
      clear hz
      go_enter Try.func101, Try.ntmps101
      go_wp2_with fail
      refine (IH.out b (a % b) _ b0 b1 r0 (by omega) (by omega)).mono ?_
      rintro e w1 ⟨x, y, d, rfl, hb1, ht⟩
      obtain ⟨k1, k2, k3, k4, k5, k6⟩ := ht.q_bound a0 bp
      have HT := Lib.hid (ht.step a0 bp)
      clear ht
      go_wp2_with fail
      go_quiet (fail)
      go_wp2_with fail
      go_ret3
      exact ⟨_, _, _, rfl, below_drewN hb1 _, HT.out⟩

set_option maxHeartbeats 800000 in
theorem under_any (m a v : Int) (ok : Bool) (w : World) (a0 : 0 ≤ a) (am : a < m) (m2 : 2 ≤ m) (m3 : m < 2147483648) (hr : InvS m a ok v) :
    Calls Try.prog 100 #[.int .u64 m, .int .u64 a] w fun e w' => e = .returned (.tuple #[.int .u64 v, .bool ok]) ∧ Below w.heap.size w w' := by
  have HR := Lib.hid hr
  clear hr
  go_enter Try.func100, Try.ntmps100
  go_wp2_with fail
  refine (turned_by m.toNat a m _ a0 (by omega) (by omega) m3 (by omega)).mono ?_
  rintro e w1 ⟨x, y, d, rfl, hb1, ht⟩
  have hd := ht.g
  by_cases h1 : d = 1
  · subst h1
    obtain ⟨x1, x2, hi⟩ := ht.inv a0 m2
    have HZ := Lib.hid (InvS.eq (m := m) (a := a) (by omega) HR.out (.inl ⟨rfl, hi⟩))
    clear hd hi ht
    by_cases hx : 0 ≤ x
    · have he : x % m = x := Int.emod_eq_of_lt hx x2
      have HE := Lib.hid he
      go_wp2_with fail
      go_ret2
      exact ⟨ret_ib (by rw [HZ.out.2, HE.out]) HZ.out.1.symm, hb1⟩
    · have HE := Lib.hid (show x % m = x + m by
        rw [← Int.add_emod_right]; exact Int.emod_eq_of_lt (by omega) (by omega))
      have ht : x.tmod m = x := by
        have e1 : (-(-x)).tmod m = -((-x).tmod m) := Int.neg_tmod _ _
        rw [Int.neg_neg] at e1
        rw [e1, Int.tmod_eq_emod_of_nonneg (by omega), Int.emod_eq_of_lt (by omega) (by omega)]; omega
      go_wp2_with fail
      go_ret2
      exact ⟨ret_ib (by rw [HZ.out.2, HE.out]) HZ.out.1.symm, hb1⟩
  · have hb : (d != 1) = true := by simpa using h1
    have HZ := Lib.hid (InvS.eq (m := m) (a := a) (by omega) HR.out (.inr ⟨rfl, rfl, by omega⟩))
    clear hd h1 ht
    go_wp2_with fail
    go_ret2
    exact ⟨ret_ib HZ.out.2.symm HZ.out.1.symm, hb1⟩

end Go.Proofs.Ytjfaaicbojnpaaa
