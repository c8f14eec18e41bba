/- Folded: RefA, RefB, RefC, RefD, RefOf. -/
import Derived.Test.YtmcpfinnhgbcpaaDoorFromD
import Derived.Test.YtmcpfinnhgbcpaaDoorGen
/- The reference of chapter 30: Has, prime, Power, turned, under. -/
namespace Go.Proofs.YtmcpfinnhgbcpaaDoor
open Go.RowKit Num

set_option maxHeartbeats 1000000 in
theorem rHas_any (P Q G : Int) (r : Bool) (w : World) (hP : 0 ≤ P) (hG : 0 ≤ G) (hr : r = decide (Has P Q G)) :
    Calls Tryd.prog 65 #[.agg #[.int .u64 P, .int .u64 Q, .int .u64 G]] w fun e w' => e = .returned (.bool r) ∧ Below w.heap.size w w' := by
  by_cases hH : Has P Q G
  · obtain ⟨p5, p3, _, pq, g2, gP⟩ := id hH
    have hm : (P % 2 == 1) = true := by simp; omega
    have hd : (Q == P / 2) = true := by simp; omega
    have HR := Lib.hid (show true = r by rw [hr]; simp [hH])
    clear hH pq hr
    go_enter Tryd.func65, Tryd.ntmps65
    go_wp2
    go_ret
    exact ⟨ret_bool HR.out, (Below.refl _ _).alloc (Nat.le_refl _) _⟩
  · have HR := Lib.hid (show false = r by rw [hr]; simp [hH])
    clear hr
    have h5 : P < 5 ∨ 2147483648 ≤ P ∨ P % 2 ≠ 1 ∨ Q ≠ P / 2 ∨ G < 2 ∨ P ≤ G := by
      unfold Has at hH; omega
    clear hH
    by_cases c1 : P < 5
    · clear h5
      go_enter Tryd.func65, Tryd.ntmps65
      go_wp2
      go_ret
      exact ⟨ret_bool HR.out, (Below.refl _ _).alloc (Nat.le_refl _) _⟩
    by_cases c2 : 2147483648 ≤ P
    · clear h5
      go_enter Tryd.func65, Tryd.ntmps65
      go_wp2
      go_ret
      exact ⟨ret_bool HR.out, (Below.refl _ _).alloc (Nat.le_refl _) _⟩
    by_cases c3 : P % 2 = 1
    case neg =>
      have hm : (P % 2 == 1) = false := by simpa using c3
      clear h5 c3
      go_enter Tryd.func65, Tryd.ntmps65
      go_wp2
      go_ret
      exact ⟨ret_bool HR.out, (Below.refl _ _).alloc (Nat.le_refl _) _⟩
    case pos =>
      have hm : (P % 2 == 1) = true := by simpa using c3
      by_cases c4 : Q = P / 2
      case neg =>
        have hd : (Q == P / 2) = false := by simpa using c4
        clear h5 c3 c4
        go_enter Tryd.func65, Tryd.ntmps65
        go_wp2
        go_ret
        exact ⟨ret_bool HR.out, (Below.refl _ _).alloc (Nat.le_refl _) _⟩
      case pos =>
        have hd : (Q == P / 2) = true := by simpa using c4
        have h6 : G < 2 ∨ P ≤ G := by omega
        clear h5 c3 c4
        by_cases c5 : G < 2
        · clear h6
          go_enter Tryd.func65, Tryd.ntmps65
          go_wp2
          go_ret
          exact ⟨ret_bool HR.out, (Below.refl _ _).alloc (Nat.le_refl _) _⟩
        · have c6 : P ≤ G := by omega
          have c7 : decide (G < P) = false := by simp; omega
          clear h6
          go_enter Tryd.func65, Tryd.ntmps65
          go_wp2
          go_ret
          exact ⟨ret_bool HR.out, (Below.refl _ _).alloc (Nat.le_refl _) _⟩


theorem powm_rec_odd {a x m : Int} (h0 : 0 ≤ x) (h : x % 2 = 1) : (powm a (x / 2) m * powm a (x / 2) m % m) * a % m = powm a x m := by
  have h1 : powm a x m = a ^ x.toNat % m := rfl
  rw [h1]
  apply Cg.emod_eq
  refine Cg.trans (((cg_emod m _).trans ((powm_cg a (x / 2) m).mul (powm_cg a (x / 2) m))).mul_right a) (Cg.of_eq ?_)
  rw [show x.toNat = (x / 2).toNat + (x / 2).toNat + 1 by omega, Int.pow_succ, Int.pow_add]
theorem powm_rec_even {a x m : Int} (h0 : 0 ≤ x) (h : x % 2 = 0) : powm a (x / 2) m * powm a (x / 2) m % m = powm a x m := by
  have h1 : powm a x m = a ^ x.toNat % m := rfl
  rw [h1]
  apply Cg.emod_eq
  refine Cg.trans ((powm_cg a (x / 2) m).mul (powm_cg a (x / 2) m)) (Cg.of_eq ?_)
  rw [show x.toNat = (x / 2).toNat + (x / 2).toNat by omega, Int.pow_add]

set_option maxHeartbeats 400000 in
theorem rPower_by (m a : Int) (m1 : 1 ≤ m) (m3 : m < 2147483648) (a0 : 0 ≤ a) (a1 : a < 2147483648) (k : Nat) : ∀ (x r : Int) (w : World), U64 x → x < 2 ^ k → powm a x m = r →
    Calls Tryd.prog 79 #[.int .u64 m, .int .u64 a, .int .u64 x] w fun e w' => e = .returned (.int .u64 r) ∧ w = w' := by
  induction k with
  | zero =>
    intro x r w hx x1 hr
    have x0 := hx.1
    obtain rfl : x = 0 := by simp at x1; omega
    have HR := Lib.hid (show 1 % m = r by rw [← hr, powm_zero])
    clear hr x1
    go_enter Tryd.func79, Tryd.ntmps79
    go_wp2_with fail
    go_ret
    exact ⟨ret_int HR.out, rfl⟩
  | succ k ih =>
    intro x r w hx x1 hr
    have x0 := hx.1
    have hhalf := hx.half
    have IH := Lib.hid ih
    clear ih
    have HR := Lib.hid hr
    clear hr
    by_cases hz : x = 0
    · subst hz
      have HZ := Lib.hid (show 1 % m = r by rw [← HR.out, powm_zero])
      clear x1
      go_enter Tryd.func79, Tryd.ntmps79
      go_wp2_with fail
      go_ret
      exact ⟨ret_int HZ.out, rfl⟩
    · have hzb : (x == 0) = false := by simpa using hz
      have HK := Lib.hid (show x / 2 < 2 ^ k by rw [Int.pow_succ] at x1; omega)
      have n0 : 0 ≤ powm a (x / 2) m := powm_nonneg (by omega)
      have n1 : powm a (x / 2) m < m := powm_lt (by omega)
      clear x1 hz
      obtain ⟨h, hh⟩ : ∃ h, powm a (x / 2) m = h := ⟨_, rfl⟩
      have HH := Lib.hid hh
      rw [hh] at n0 n1
      clear hh
      obtain ⟨k1, k2⟩ := mul_bound n0 (by omega) n0 (by omega)
      have q0 : 0 ≤ h * h % m := Int.emod_nonneg _ (by omega)
      have q1 : h * h % m < m := Int.emod_lt_of_pos _ (by omega)
      obtain ⟨k3, k4⟩ := mul_bound q0 (by omega) a0 a1
      by_cases hb : x % 2 = 1
      · have hbb : (x % 2 == 1) = true := by simpa using hb
        have HZ := Lib.hid (show (h * h % m) * a % m = r by rw [← HH.out, powm_rec_odd x0 hb]; exact HR.out)
        clear hb
        go_enter Tryd.func79, Tryd.ntmps79
        go_wp2_with fail
        refine (IH.out (x / 2) h _ (hx.mono (by omega) (by omega)) HK.out HH.out).mono ?_
        rintro e w1 ⟨rfl, rfl⟩
        go_wp2_with fail
        go_ret
        exact ⟨ret_int HZ.out, rfl⟩
      · have hbb : (x % 2 == 1) = false := by simpa using hb
        have HZ := Lib.hid (show h * h % m = r by rw [← HH.out, powm_rec_even x0 (by omega)]; exact HR.out)
        clear hb
        go_enter Tryd.func79, Tryd.ntmps79
        go_wp2_with fail
        refine (IH.out (x / 2) h _ (hx.mono (by omega) (by omega)) HK.out HH.out).mono ?_
        rintro e w1 ⟨rfl, rfl⟩
        go_wp2_with fail
        go_ret
        exact ⟨ret_int HZ.out, rfl⟩

theorem rPower_any (m a x r : Int) (w : World) (m1 : 1 ≤ m) (m3 : m < 2147483648) (a0 : 0 ≤ a) (a1 : a < 2147483648) (hx : U64 x) (hr : powm a x m = r) :
    Calls Tryd.prog 79 #[.int .u64 m, .int .u64 a, .int .u64 x] w fun e w' => e = .returned (.int .u64 r) ∧ w = w' :=
  rPower_by m a m1 m3 a0 a1 64 x r w hx (by have := hx.2; omega) hr

end Go.Proofs.YtmcpfinnhgbcpaaDoor
/- The reference of chapter 30, further: turned, under, asked, and the functions of the chapter. -/
namespace Go.Proofs.YtmcpfinnhgbcpaaDoor
open Go.RowKit Num



end Go.Proofs.YtmcpfinnhgbcpaaDoor
/- The reference functions of chapter 30 that begin with asked. -/
namespace Go.Proofs.YtmcpfinnhgbcpaaDoor
open Go.RowKit Num

theorem checkS_padP (P Q G a : Int) : checkS P Q G P [a, 0] = checkS P Q G P [a] := by
  by_cases h : Has P Q G
  · have : 0 < P := by have := h.1; omega
    unfold checkS okAll; simp [this]
  · unfold checkS; simp [h]
theorem checkS_padQ (P Q G a : Int) : checkS P Q G Q [a, 0] = checkS P Q G Q [a] := by
  by_cases h : Has P Q G
  · have : 0 < Q := by have := h.1; have := h.2.2.2.1; omega
    unfold checkS okAll; simp [this]
  · unfold checkS; simp [h]
theorem checkS_has {P Q G L : Int} (h : Has P Q G) : checkS P Q G L [] = 0 := by rw [checkS, if_pos h]; simp [okAll]
theorem checkS_not {P Q G L : Int} {xs : List Int} (h : ¬ Has P Q G) : checkS P Q G L xs = 300 := by rw [checkS, if_neg h]






set_option maxHeartbeats 800000 in
theorem rIn_gen {P Q G a : Int} {r : Bool} (hQ : 0 ≤ Q) (w : World) (hH : Has P Q G) (a0 : 0 ≤ a) (aP : a < P) (hr : r = true ↔ Mem P Q a) :
    Calls Tryd.prog 84 #[.agg #[.int .u64 P, .int .u64 Q, .int .u64 G], .int .u64 a] w fun e w' => e = .returned (.bool r) ∧ Below w.heap.size w w' := by
  obtain ⟨p5, p3, hQ', pq, g2, gP⟩ := id hH
  have HX := Lib.hid (U64.of_lt hQ (by omega))
  have HM := Lib.hid hr
  clear hr pq hH
  by_cases h0 : 0 < a
  · have HZ := Lib.hid (show (powm a Q P == 1) = r by rw [Bool.eq_iff_iff, HM.out]; simp [Mem, h0, aP])
    go_enter Tryd.func84, Tryd.ntmps84
    go_wp2_with fail
    refine (rPower_any P a Q _ _ (by omega) p3 a0 (by omega) HX.out rfl).mono ?_
    rintro e w2 ⟨rfl, rfl⟩
    go_wp2_with fail
    go_ret
    exact ⟨ret_bool HZ.out, (Below.refl _ _).alloc (Nat.le_refl _) _⟩
  · have HZ := Lib.hid (show false = r by rw [Bool.eq_iff_iff, HM.out]; simp [Mem, h0])
    go_enter Tryd.func84, Tryd.ntmps84
    go_wp2_with fail
    go_ret
    exact ⟨ret_bool HZ.out, (Below.refl _ _).alloc (Nat.le_refl _) _⟩
set_option maxHeartbeats 800000 in
theorem rSum_gen {P Q G x y v : Int} (w : World) (hH : Has P Q G) (x0 : 0 ≤ x) (xQ : x < Q) (y0 : 0 ≤ y) (yQ : y < Q) (hv : (x + y) % Q = v) :
    Calls Tryd.prog 78 #[.agg #[.int .u64 P, .int .u64 Q, .int .u64 G], .int .u64 x, .int .u64 y] w fun e w' => e = .returned (.int .u64 v) ∧ Below w.heap.size w w' := by
  obtain ⟨p5, p3, hQ', pq, g2, gP⟩ := id hH
  have q3 : Q < 1073741824 := by omega
  have HV := Lib.hid hv
  clear hv pq hH
  go_enter Tryd.func78, Tryd.ntmps78
  go_wp2_with fail
  go_ret
  exact ⟨ret_int HV.out, (Below.refl _ _).alloc (Nat.le_refl _) _⟩
set_option maxHeartbeats 800000 in
theorem rDiff_gen {P Q G x y v : Int} (w : World) (hH : Has P Q G) (x0 : 0 ≤ x) (xQ : x < Q) (y0 : 0 ≤ y) (yQ : y < Q) (hv : (x - y) % Q = v) :
    Calls Tryd.prog 77 #[.agg #[.int .u64 P, .int .u64 Q, .int .u64 G], .int .u64 x, .int .u64 y] w fun e w' => e = .returned (.int .u64 v) ∧ Below w.heap.size w w' := by
  obtain ⟨p5, p3, hQ', pq, g2, gP⟩ := id hH
  have q3 : Q < 1073741824 := by omega
  have HV := Lib.hid (show (x + Q - y) % Q = v by rw [show x + Q - y = x - y + Q by omega, Int.add_emod_right]; exact hv)
  clear hv pq hH
  go_enter Tryd.func77, Tryd.ntmps77
  go_wp2_with fail
  go_ret
  exact ⟨ret_int HV.out, (Below.refl _ _).alloc (Nat.le_refl _) _⟩
set_option maxHeartbeats 800000 in
theorem rProduct_gen {P Q G x y v : Int} (w : World) (hH : Has P Q G) (x0 : 0 ≤ x) (xQ : x < Q) (y0 : 0 ≤ y) (yQ : y < Q) (hv : x * y % Q = v) :
    Calls Tryd.prog 83 #[.agg #[.int .u64 P, .int .u64 Q, .int .u64 G], .int .u64 x, .int .u64 y] w fun e w' => e = .returned (.int .u64 v) ∧ Below w.heap.size w w' := by
  obtain ⟨p5, p3, hQ', pq, g2, gP⟩ := id hH
  have q3 : Q < 1073741824 := by omega
  obtain ⟨m1, m2⟩ := mul_bound x0 (by omega) y0 (by omega)
  have HV := Lib.hid hv
  clear hv pq hH
  go_enter Tryd.func83, Tryd.ntmps83
  go_wp2_with fail
  go_ret
  exact ⟨ret_int HV.out, (Below.refl _ _).alloc (Nat.le_refl _) _⟩





end Go.Proofs.YtmcpfinnhgbcpaaDoor
/- The reference of chapter 30: Form, Check, IsPrime, Default, Log, FromDigest. -/
namespace Go.Proofs.YtmcpfinnhgbcpaaDoor
open Go.RowKit Num







end Go.Proofs.YtmcpfinnhgbcpaaDoor
/- The reference's Of and FromDigest. -/
namespace Go.Proofs.YtmcpfinnhgbcpaaDoor
open Go.RowKit Num
set_option linter.unusedVariables false

theorem byteV_size (bs : List Int) : (byteV bs).size = bs.length := by simp [byteV]

set_option maxHeartbeats 1000000 in
theorem rOf_ok (P Q G v : Int) (bs : List Int) (w : World) (hH : Has P Q G) (hlen : bs.length = 32) (hB : Bytes bs) (hv : beN (bs.take 8) % Q = v) :
    Calls Tryd.prog 81 #[.agg #[.int .u64 P, .int .u64 Q, .int .u64 G], .agg (byteV bs)] w fun e w' => e = .returned (.int .u64 v) ∧ Below w.heap.size w w' := by
  obtain ⟨p5, p3, hQ, pq, g2, gP⟩ := id hH
  have q3 : Q < 1073741824 := by omega
  have q2 : 2 ≤ Q := by omega
  have HB := Lib.hid hB
  clear hB
  have HV := Lib.hid hv
  clear hv
  have HL := Lib.hid hlen
  clear hlen
  clear pq hH
  have HS := Lib.hid (show ∀ i, i < bs.length → (((w.alloc (.cells #[.int .u64 P, .int .u64 Q, .int .u64 G] 24)).alloc (.cells (byteV bs) 81))).cell? ⟨w.heap.size + 1, i, none⟩ = some (.int .u8 (bs.getD i 0)) from fun i hi => by
    rw [← byteV_get bs i hi]; go_simp)
  go_enter Tryd.func81, Tryd.ntmps81
  go_wp2_with fail
  go_loop [5, 6] (fun n i => ∃ k : Nat, k ≤ 8 ∧ i = .int .i64 k ∧ n = .int .u64 (beN (bs.take k))) (fun _ i => 8 - (intOf i).toNat)
  case atStart => exact ⟨0, by omega, rfl, rfl⟩
  case round =>
    obtain ⟨k, hk, rfl, rfl⟩ := hrel
    by_cases hlt : k < 8
    · have hck := HS.out k (by have := HL.out; omega)
      have hk32 : (k : Int) < 32 := by omega
      have HN := Lib.hid (beN_snoc bs k (by have := HL.out; omega))
      obtain ⟨n0, n1⟩ := beN_bound HB.out k (by have := HL.out; omega)
      have n2 := pow256_le k hlt
      obtain ⟨c0, c1⟩ := HB.out.get k
      generalize bs.getD k 0 = c at hck HN c0 c1
      generalize beN (bs.take k) = n at HN n0 n1
      have n3 : n < 72057594037927936 := by omega
      clear n1 n2
      go_wp2_with fail
      go_round
      case rel => exact ⟨k + 1, by omega, by go_num, by rw [HN.out, Int.mul_comm]⟩
      case measure => simp [intOf]; omega
    · obtain rfl : k = 8 := by omega
      have n0 := (beN_bound HB.out 8 (by have := HL.out; omega)).1
      go_wp2_with fail
      go_ret
      exact ⟨ret_int HV.out, ((Below.refl _ _).alloc (Nat.le_refl _) _).alloc (by simp) _⟩

end Go.Proofs.YtmcpfinnhgbcpaaDoor
