/- The reference's Of and FromDigest. -/
import Derived.Test.YtmcpfinnhgbcpaaDoorRefD
namespace Go.Proofs.YtmcpfinnhgbcpaaDoor
open Go.RowKit Num
set_option linter.unusedVariables false

theorem byteV_size (bs : List Int) : (byteV bs).size = bs.length := by simp [byteV]

set_option maxHeartbeats 1000000 in
theorem rOf_ok (P Q G v : Int) (bs : List Int) (w : World) (hH : Has P Q G) (hlen : bs.length = 32) (hB : Bytes bs) (hv : beN (bs.take 8) % Q = v) :
    Calls Tryd.prog 81 #[.agg #[.int .u64 P, .int .u64 Q, .int .u64 G], .agg (byteV bs)] w fun e w' => e = .returned (.int .u64 v) ∧ Below w.heap.size w w' := by
  obtain ⟨p5, p3, hQ, pq, g2, gP⟩ := id hH
  have q3 : Q < 1073741824 := by omega
  have q2 : 2 ≤ Q := by omega
  have HB := Lib.hid hB
  clear hB
  have HV := Lib.hid hv
  clear hv
  have HL := Lib.hid hlen
  clear hlen
  clear pq hH
  have HS := Lib.hid (show ∀ i, i < bs.length → (((w.alloc (.cells #[.int .u64 P, .int .u64 Q, .int .u64 G] 24)).alloc (.cells (byteV bs) 81))).cell? ⟨w.heap.size + 1, i, none⟩ = some (.int .u8 (bs.getD i 0)) from fun i hi => by
    rw [← byteV_get bs i hi]; go_simp)
  go_enter Tryd.func81, Tryd.ntmps81
  go_wp2_with fail
  go_loop [5, 6] (fun n i => ∃ k : Nat, k ≤ 8 ∧ i = .int .i64 k ∧ n = .int .u64 (beN (bs.take k))) (fun _ i => 8 - (intOf i).toNat)
  case atStart => exact ⟨0, by omega, rfl, rfl⟩
  case round =>
    obtain ⟨k, hk, rfl, rfl⟩ := hrel
    by_cases hlt : k < 8
    · have hck := HS.out k (by have := HL.out; omega)
      have hk32 : (k : Int) < 32 := by omega
      have HN := Lib.hid (beN_snoc bs k (by have := HL.out; omega))
      obtain ⟨n0, n1⟩ := beN_bound HB.out k (by have := HL.out; omega)
      have n2 := pow256_le k hlt
      obtain ⟨c0, c1⟩ := HB.out.get k
      generalize bs.getD k 0 = c at hck HN c0 c1
      generalize beN (bs.take k) = n at HN n0 n1
      have n3 : n < 72057594037927936 := by omega
      clear n1 n2
      go_wp2_with fail
      go_round
      case rel => exact ⟨k + 1, by omega, by go_num, by rw [HN.out, Int.mul_comm]⟩
      case measure => simp [intOf]; omega
    · obtain rfl : k = 8 := by omega
      have n0 := (beN_bound HB.out 8 (by have := HL.out; omega)).1
      go_wp2_with fail
      go_ret
      exact ⟨ret_int HV.out, ((Below.refl _ _).alloc (Nat.le_refl _) _).alloc (by simp) _⟩

end Go.Proofs.YtmcpfinnhgbcpaaDoor
