/- The reference's number and bitAt. -/
import Derived.Test.YtlbldpkgnonbpaaDoorByI
namespace Go.Proofs.YtlbldpkgnonbpaaDoor
open Go Go.RowKit Num Sha
set_option linter.unusedSimpArgs false
set_option linter.unusedVariables false

set_option maxRecDepth 100000 in
set_option maxHeartbeats 8000000 in
theorem rnumber_any {w0 : World} {a : Option Addr} {n0 c0 : Nat} {xs : List Int} (k : Nat) (w : World) (hb : Below w0.heap.size w0 w) (hS : ShI .u8 w0 a n0 xs) (hu : Bytes xs) (hk : 3 + 8 * k + 8 ≤ n0) (hl : n0 ≤ 2000) :
    Calls Tryd.prog 36 #[.slice a n0 c0, .int .i64 (k : Int)] w fun e w' => e = .returned (.int .u64 (num8 (xs.drop 3) k)) ∧ w' = w := by
  have HL := Lib.hid hS.len
  obtain ⟨s, o, rfl, hs, HC⟩ : ∃ s o, a = some ⟨s, o, none⟩ ∧ s < w0.heap.size ∧ Hid (∀ i, i < n0 → w.cell? ⟨s, o + i, none⟩ = some (.int .u8 (xs.getD i 0))) := by
    rcases hS with ⟨h1, _⟩ | ⟨s, o, h0, h1, h2, h3⟩
    · omega
    · exact ⟨s, o, h0, h2, fun i hi => (hb.cell (p := ⟨s, o + i, none⟩) h2).trans (h3 i (by omega))⟩
  have HB := Lib.hid hu
  obtain ⟨ys, hys⟩ : ∃ ys, (xs.drop 3).drop (8 * k) = ys := ⟨_, rfl⟩
  have HY := Lib.hid (show Bytes ys from hys ▸ (hu.drop 3).drop _)
  have HLY := Lib.hid (show 8 ≤ ys.length by rw [← hys, List.length_drop, List.length_drop]; have := HL.out; omega)
  have HR := Lib.hid (show num8 (xs.drop 3) k = beN (ys.take 8) by rw [num8, hys])
  have HG := Lib.hid (show ∀ j, ys.getD j 0 = xs.getD (3 + 8 * k + j) 0 by intro j; rw [← hys]; simp [List.getD_eq_getElem?_getD, List.getElem?_drop, Nat.add_assoc])
  have w1 : IntKind.i64.wrap (8 * (k : Int)) = 8 * (k : Int) := IntWalk.i64_in _ (by omega)
  have w2 : IntKind.i64.wrap (3 + 8 * (k : Int)) = 3 + 8 * (k : Int) := IntWalk.i64_in _ (by omega)
  clear hS hu hb hys
  go_enter Tryd.func36, Tryd.ntmps36
  go_wp2_with fail
  go_loop [5, 6] (fun c5 c6 => ∃ j : Nat, j ≤ 8 ∧ c6 = .int .i64 j ∧ c5 = .int .u64 (beN (ys.take j))) (fun _ i => 8 - (intOf i).toNat)
  case atStart => exact ⟨0, by omega, rfl, rfl⟩
  case round =>
    obtain ⟨j, hj, rfl, rfl⟩ := hrel
    by_cases hlt : j < 8
    · have hck := HC.out (3 + 8 * k + j) (by omega)
      rw [← HG.out j] at hck
      have HN := Lib.hid (beN_snoc ys j (by have := HLY.out; omega))
      obtain ⟨n0', n1⟩ := beN_bound HY.out j (by have := HLY.out; omega)
      have n2 := pow256_le j hlt
      obtain ⟨c0', c1⟩ := HY.out.get j
      generalize ys.getD j 0 = b at hck HN c0' c1
      generalize beN (ys.take j) = m at HN n0' n1
      have n3 : m < 72057594037927936 := by omega
      clear n1 n2
      have w3 : IntKind.i64.wrap (3 + 8 * (k : Int) + (j : Int)) = ((3 + 8 * k + j : Nat) : Int) := by rw [IntWalk.i64_in _ (by omega)]; push_cast; rfl
      have w4 : IntKind.u64.wrap (256 * m) = 256 * m := IntWalk.u64_in _ (by omega)
      have w5 : IntKind.u64.wrap (256 * m + b) = 256 * m + b := IntWalk.u64_in _ (by omega)
      have w6 : IntKind.u64.wrap b = b := IntWalk.u64_in _ (by omega)
      have i1 : ((3 + 8 * k + j : Nat) : Int) < (n0 : Int) := by omega
      have i0 : (0 : Int) ≤ ((3 + 8 * k + j : Nat) : Int) := by omega
      go_wp2_with fail
      go_round
      case rel => exact ⟨j + 1, by omega, by go_num, by rw [HN.out, Int.mul_comm]⟩
      case measure => simp [intOf]; omega
    · obtain rfl : j = 8 := by omega
      go_wp2_with fail
      go_ret
      exact ⟨by rw [HR.out]; rfl, rfl⟩
theorem rnumber_at {w0 : World} {a : Option Addr} {n0 c0 : Nat} {xs : List Int} (k : Nat) (ki : Int) (he : ki = (k : Int)) (w : World) (hb : Below w0.heap.size w0 w) (hS : ShI .u8 w0 a n0 xs) (hu : Bytes xs) (hk : 3 + 8 * k + 8 ≤ n0) (hl : n0 ≤ 2000) :
    Calls Tryd.prog 36 #[.slice a n0 c0, .int .i64 ki] w fun e w' => e = .returned (.int .u64 (num8 (xs.drop 3) k)) ∧ w' = w := by subst he; exact rnumber_any k w hb hS hu hk hl

set_option maxRecDepth 100000 in
set_option maxHeartbeats 8000000 in
theorem rbitAt_any {w0 : World} {a : Option Addr} {n0 c0 : Nat} {xs : List Int} (k : Nat) (w : World) (hb : Below w0.heap.size w0 w) (hS : ShI .u8 w0 a n0 xs) (hu : Bytes xs) (hk : 3 + 8 * k + 64 ≤ n0) (hl : n0 ≤ 2000) :
    Calls Tryd.prog 37 #[.slice a n0 c0, .int .i64 (k : Int)] w fun e w' => e = .returned (.agg #[.int .u64 (num8 (xs.drop 3) k), .int .u64 (num8 (xs.drop 3) (k + 2)), .int .u64 (num8 (xs.drop 3) (k + 1)), .int .u64 (num8 (xs.drop 3) (k + 3)), .int .u64 (num8 (xs.drop 3) (k + 4)), .int .u64 (num8 (xs.drop 3) (k + 5)), .int .u64 (num8 (xs.drop 3) (k + 6)), .int .u64 (num8 (xs.drop 3) (k + 7))]) ∧ Below w.heap.size w w' := by
  have HB := Lib.hid (hb.alloc hb.size (.cells #[.int .u64 0, .int .u64 0, .int .u64 0, .int .u64 0, .int .u64 0, .int .u64 0, .int .u64 0, .int .u64 0] 27))
  have HS := Lib.hid hS
  have HU := Lib.hid hu
  have F_r := Lib.hid (show Arr .u64 (w.alloc (.cells #[.int .u64 0, .int .u64 0, .int .u64 0, .int .u64 0, .int .u64 0, .int .u64 0, .int .u64 0, .int .u64 0] 27)) w.heap.size [0, 0, 0, 0, 0, 0, 0, 0] from Arr.new .u64 w [0, 0, 0, 0, 0, 0, 0, 0] _ _ rfl)
  have HBW := Lib.hid (show Below w.heap.size w (w.alloc (.cells #[.int .u64 0, .int .u64 0, .int .u64 0, .int .u64 0, .int .u64 0, .int .u64 0, .int .u64 0, .int .u64 0] 27)) from (Below.refl _ _).alloc (Nat.le_refl _) _)
  have w1 : IntKind.i64.wrap ((k : Int) + 1) = (k : Int) + 1 := IntWalk.i64_in _ (by omega)
  have w2 : IntKind.i64.wrap ((k : Int) + 2) = (k : Int) + 2 := IntWalk.i64_in _ (by omega)
  have w3 : IntKind.i64.wrap ((k : Int) + 3) = (k : Int) + 3 := IntWalk.i64_in _ (by omega)
  have w4 : IntKind.i64.wrap ((k : Int) + 4) = (k : Int) + 4 := IntWalk.i64_in _ (by omega)
  have w5 : IntKind.i64.wrap ((k : Int) + 5) = (k : Int) + 5 := IntWalk.i64_in _ (by omega)
  have w6 : IntKind.i64.wrap ((k : Int) + 6) = (k : Int) + 6 := IntWalk.i64_in _ (by omega)
  have w7 : IntKind.i64.wrap ((k : Int) + 7) = (k : Int) + 7 := IntWalk.i64_in _ (by omega)
  clear hb hS hu
  go_enter Tryd.func37, Tryd.ntmps37
  obtain ⟨q0, q1, q2, q3, q4, q5, q6, q7, q8, q9, q10, q11, q12, q13, q14, q15⟩ := F_r.out.k8
  go_wp2_with fail
  refine (rnumber_at k _ (by first | rfl | (push_cast; rfl) | simp) _ HB.out HS.out HU.out (by omega) hl).mono ?_
  rintro e w5 ⟨rfl, rfl⟩
  go_wp2_with fail
  refine (rnumber_at (k + 2) _ (by first | rfl | (push_cast; rfl) | simp) _ HB.out HS.out HU.out (by omega) hl).mono ?_
  rintro e w5 ⟨rfl, rfl⟩
  go_wp2_with fail
  refine (rnumber_at (k + 1) _ (by first | rfl | (push_cast; rfl) | simp) _ HB.out HS.out HU.out (by omega) hl).mono ?_
  rintro e w5 ⟨rfl, rfl⟩
  go_wp2_with fail
  refine (rnumber_at (k + 3) _ (by first | rfl | (push_cast; rfl) | simp) _ HB.out HS.out HU.out (by omega) hl).mono ?_
  rintro e w5 ⟨rfl, rfl⟩
  go_wp2_with fail
  refine (rnumber_at (k + 4) _ (by first | rfl | (push_cast; rfl) | simp) _ HB.out HS.out HU.out (by omega) hl).mono ?_
  rintro e w5 ⟨rfl, rfl⟩
  go_wp2_with fail
  refine (rnumber_at (k + 5) _ (by first | rfl | (push_cast; rfl) | simp) _ HB.out HS.out HU.out (by omega) hl).mono ?_
  rintro e w5 ⟨rfl, rfl⟩
  go_wp2_with fail
  refine (rnumber_at (k + 6) _ (by first | rfl | (push_cast; rfl) | simp) _ HB.out HS.out HU.out (by omega) hl).mono ?_
  rintro e w5 ⟨rfl, rfl⟩
  go_wp2_with fail
  refine (rnumber_at (k + 7) _ (by first | rfl | (push_cast; rfl) | simp) _ HB.out HS.out HU.out (by omega) hl).mono ?_
  rintro e w5 ⟨rfl, rfl⟩
  go_wp2_with fail
  exact bodyPost_ret (res_bit1 rfl (Arr.new .u64 w [num8 (xs.drop 3) k, num8 (xs.drop 3) (k + 2), num8 (xs.drop 3) (k + 1), num8 (xs.drop 3) (k + 3), num8 (xs.drop 3) (k + 4), num8 (xs.drop 3) (k + 5), num8 (xs.drop 3) (k + 6), num8 (xs.drop 3) (k + 7)] _ _ rfl) _ rfl) rfl ⟨rfl, (Below.refl _ _).alloc (Nat.le_refl _) _⟩
theorem num8_drop (ys : List Int) (k j : Nat) : num8 (ys.drop (8 * k)) j = num8 ys (k + j) := by rw [num8, num8, List.drop_drop]; congr 3; omega
theorem rbitAt_at {w0 : World} {a : Option Addr} {n0 c0 : Nat} {xs : List Int} (k : Nat) (ki : Int) (he : ki = (k : Int)) (w : World) (hb : Below w0.heap.size w0 w) (hS : ShI .u8 w0 a n0 xs) (hu : Bytes xs) (hk : 3 + 8 * k + 64 ≤ n0) (hl : n0 ≤ 2000) :
    Calls Tryd.prog 37 #[.slice a n0 c0, .int .i64 ki] w fun e w' => e = .returned (.agg #[.int .u64 (bitN ((xs.drop 3).drop (8 * k))).r0, .int .u64 (bitN ((xs.drop 3).drop (8 * k))).r1, .int .u64 (bitN ((xs.drop 3).drop (8 * k))).s0, .int .u64 (bitN ((xs.drop 3).drop (8 * k))).s1, .int .u64 (bitN ((xs.drop 3).drop (8 * k))).c0, .int .u64 (bitN ((xs.drop 3).drop (8 * k))).c1, .int .u64 (bitN ((xs.drop 3).drop (8 * k))).z0, .int .u64 (bitN ((xs.drop 3).drop (8 * k))).z1]) ∧ Below w.heap.size w w' := by
  subst he
  have h := rbitAt_any (c0 := c0) k w hb hS hu hk hl
  simpa only [bitN, num8_drop, Nat.add_zero] using h
end Go.Proofs.YtlbldpkgnonbpaaDoor
