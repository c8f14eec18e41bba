/- group.inverse: the inverse modulo m by Euclid's algorithm. -/
import Derived.Test.YtjfaaicbojnpaaaArith
namespace Go.Proofs.Ytjfaaicbojnpaaa
open Go.RowKit Num

set_option maxHeartbeats 800000 in
theorem inverse_any (a m v : Int) (ok : Bool) (w : World) (a0 : 0 ≤ a) (am : a < m) (m3 : m < 2147483648) (hr : InvS m a ok v) :
    Calls Try.prog 90 #[.int .u64 a, .int .u64 m] w fun e w' => e = .returned (.tuple #[.int .u64 v, .bool ok]) ∧ w = w' := by
  have HR := Lib.hid hr
  clear hr
  have HS := Lib.hid (EInv.start (show 1 ≤ m by omega) a0 am)
  go_enter Try.func90, Try.ntmps90
  go_wp2
  go_loop [6, 7, 8, 9, 10] (fun r s x y _ => ∃ rr ss xx yy : Int, Hid (EInv m a rr ss xx yy) ∧ r = .int .i64 rr ∧ s = .int .i64 ss ∧ x = .int .i64 xx ∧ y = .int .i64 yy) (fun _ s _ _ _ => (intOf s).toNat)
  case atStart => exact ⟨m, a, 0, 1, HS, rfl, rfl, rfl, rfl⟩
  case round =>
    obtain ⟨r, s, x, y, HI, rfl, rfl, rfl, rfl⟩ := hrel
    have r1 := HI.out.r1
    have rm := HI.out.rm
    have s0 := HI.out.s0
    have sr := HI.out.sr
    have xl := HI.out.xl
    have xu := HI.out.xu
    obtain ⟨yl, yu⟩ := HI.out.y_bound
    by_cases hs : s = 0
    · subst hs
      have hg := HI.out.done
      by_cases h1 : r = 1
      · subst h1
        have HV := Lib.hid (show ok = true ∧ v = x % m by
          have hi := HI.out.inv
          rw [Int.add_emod_right] at hi
          exact InvS.eq (by omega) HR.out (.inl ⟨rfl, hi⟩))
        have n0 : 0 ≤ x % m := Int.emod_nonneg _ (by omega)
        have n1 : x % m < m := Int.emod_lt_of_pos _ (by omega)
        clear hg
        go_wp2
        go_ret2
        exact ⟨ret_ib HV.out.2.symm HV.out.1.symm, rfl⟩
      · have hb : (r != 1) = true := by simpa using h1
        have HV := Lib.hid (show ok = false ∧ v = 0 from InvS.eq (m := m) (a := a) (by omega) HR.out (.inr ⟨rfl, rfl, by omega⟩))
        clear hg h1
        go_wp2
        go_ret2
        exact ⟨ret_ib HV.out.2.symm HV.out.1.symm, rfl⟩
    · have hb : (s != 0) = true := by simpa using hs
      obtain ⟨q0, q1, q2, q3⟩ := HI.out.q_bound (by omega)
      have HN := Lib.hid (HI.out.step (by omega))
      have y2 := HN.out.y_bound
      have s2 := HN.out.s0
      have hq0 : 0 ≤ r / s := Int.ediv_nonneg (by omega) (by omega)
      have hq1 : r / s ≤ r := Int.ediv_le_self _ (by omega)
      have hs' : 0 < s := by omega
      clear hs
      go_wp2
      go_round
      case rel => exact ⟨_, _, _, _, HN, rfl, rfl, rfl, rfl⟩
      case measure => have := HN.out.sr; simp [intOf]; omega
end Go.Proofs.Ytjfaaicbojnpaaa
