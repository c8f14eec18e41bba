/- The reference's Of and FromDigest. -/
import Derived.Test.YtjdfjgphjdcnmaaRefD
namespace Go.Proofs.Ytjdfjgphjdcnmaa
open Go.RowKit Num
set_option linter.unusedVariables false

theorem byteV_size (bs : List Int) : (byteV bs).size = bs.length := by simp [byteV]

set_option maxHeartbeats 1000000 in
theorem rOf_ok (P Q G v : Int) (bs : List Int) (w : World) (hH : Has P Q G) (hlen : bs.length = 32) (hB : Bytes bs) (hv : beN (bs.take 8) % Q = v) :
    Calls Try.prog 55 #[.agg #[.int .u64 P, .int .u64 Q, .int .u64 G], .agg (byteV bs)] w fun e w' => e = .returned (.int .u64 v) ∧ Below w.heap.size w w' := by
  obtain ⟨p5, p3, hQ, pq, g2, gP⟩ := id hH
  have q3 : Q < 1073741824 := by omega
  have q2 : 2 ≤ Q := by omega
  have HB := Lib.hid hB
  clear hB
  have HV := Lib.hid hv
  clear hv
  have HL := Lib.hid hlen
  clear hlen
  clear pq hH
  have HS := Lib.hid (show ∀ i, i < bs.length → (((w.alloc (.cells #[.int .u64 P, .int .u64 Q, .int .u64 G] 24)).alloc (.cells (byteV bs) 34))).cell? ⟨w.heap.size + 1, i, none⟩ = some (.int .u8 (bs.getD i 0)) from fun i hi => by
    rw [← byteV_get bs i hi]; go_simp)
  go_enter Try.func55, Try.ntmps55
  go_wp2_with fail
  go_loop [5, 6] (fun n i => ∃ k : Nat, k ≤ 8 ∧ i = .int .i64 k ∧ n = .int .u64 (beN (bs.take k))) (fun _ i => 8 - (intOf i).toNat)
  case atStart => exact ⟨0, by omega, rfl, rfl⟩
  case round =>
    obtain ⟨k, hk, rfl, rfl⟩ := hrel
    by_cases hlt : k < 8
    · have hck := HS.out k (by have := HL.out; omega)
      have hk32 : (k : Int) < 32 := by omega
      have HN := Lib.hid (beN_snoc bs k (by have := HL.out; omega))
      obtain ⟨n0, n1⟩ := beN_bound HB.out k (by have := HL.out; omega)
      have n2 := pow256_le k hlt
      obtain ⟨c0, c1⟩ := HB.out.get k
      generalize bs.getD k 0 = c at hck HN c0 c1
      generalize beN (bs.take k) = n at HN n0 n1
      have n3 : n < 72057594037927936 := by omega
      clear n1 n2
      go_wp2_with fail
      go_round
      case rel => exact ⟨k + 1, by omega, by go_num, by rw [HN.out, Int.mul_comm]⟩
      case measure => simp [intOf]; omega
    · obtain rfl : k = 8 := by omega
      have n0 := (beN_bound HB.out 8 (by have := HL.out; omega)).1
      go_wp2_with fail
      go_ret
      exact ⟨ret_int HV.out, ((Below.refl _ _).alloc (Nat.le_refl _) _).alloc (by simp) _⟩

set_option maxHeartbeats 1000000 in
theorem rFromDigest_gen {P Q G v c : Int} {bs : List Int} (w : World) (hP : 0 ≤ P) (hG : 0 ≤ G) (hlen : bs.length = 32) (hB : Bytes bs) (hr : RetS (checkS P Q G 0 []) (beN (bs.take 8) % Q) v c) :
    Calls Try.prog 25 #[.agg #[.int .u64 P, .int .u64 Q, .int .u64 G], .agg (byteV bs)] w fun e w' => e = .returned (.tuple #[.int .u64 v, .int .i64 c]) ∧ Below w.heap.size w w' := by
  by_cases hH : Has P Q G
  · have HV := Lib.hid (show v = beN (bs.take 8) % Q ∧ 0 = c by
      rcases hr with ⟨h, h1, h2⟩ | ⟨h, _⟩
      · exact ⟨h1, h2.symm⟩
      · exact absurd (checkS_has hH) h)
    have HH := Lib.hid hH
    have HL := Lib.hid hlen
    have HB := Lib.hid hB
    clear hr hH hlen hB
    have hbox : ∀ w1 : World, Below ((w.alloc (.cells #[.int .u64 P, .int .u64 Q, .int .u64 G] 24)).alloc (.cells (byteV bs) 34)).heap.size ((w.alloc (.cells #[.int .u64 P, .int .u64 Q, .int .u64 G] 24)).alloc (.cells (byteV bs) 34)) w1 →
        w1.heap[w.heap.size + 1]? = some (.cells (byteV bs) 34) := fun w1 hb => by
      rw [hb.block _ (by simp)]
      have e : w.heap.size + 1 = (w.alloc (.cells #[.int .u64 P, .int .u64 Q, .int .u64 G] 24)).heap.size := by simp
      rw [e]
      show ((World.alloc _ _).heap.push _)[_]? = _
      rw [Array.getElem?_push, if_pos rfl]
    have HI := Lib.hid (show (Try.prog.info? 34).map (·.size) = some (byteV bs).size by rw [byteV_size, HL.out]; kernel_rfl)
    go_enter Try.func25, Try.ntmps25
    go_wp2_with fail
    refine (rHas_any P Q G true _ hP hG (by simp [HH.out])).mono ?_
    rintro e w1 ⟨rfl, hb1⟩
    have hrow := hbox w1 hb1
    obtain ⟨hc, hf⟩ := bcell hb1
    have hz := hb1.size
    clear hbox
    go_wp2_with (refine wpList_load_row rfl 34 _ rfl (w.heap.size + 1) rfl 34 _ _ _ hrow Try.underlying34 rfl HI.out ?_)
    refine (rOf_ok P Q G _ bs _ HH.out HL.out HB.out rfl).mono ?_
    rintro e w2 ⟨rfl, hb2⟩
    go_wp2_with fail
    go_ret2
    exact ⟨ret_two HV.out.1.symm HV.out.2, (((Below.refl _ _).alloc (by simp) _).alloc (by simp) _).trans (hb1.mono (by simp <;> omega)) |>.trans (hb2.mono (by simp only [World.size_alloc] at hz; omega))⟩
  · have HV := Lib.hid (show v = 0 ∧ 300 = c by
      rcases hr with ⟨h, h1, h2⟩ | ⟨h, h1, h2⟩
      · exact absurd (checkS_zero h).1 hH
      · rw [checkS_not hH] at h2; exact ⟨h1, h2.symm⟩)
    have HH := Lib.hid hH
    clear hr hH
    go_enter Try.func25, Try.ntmps25
    go_wp2_with fail
    refine (rHas_any P Q G false _ hP hG (by simp [HH.out])).mono ?_
    rintro e w1 ⟨rfl, hb1⟩
    go_wp2_with fail
    go_ret2
    exact ⟨ret_two HV.out.1.symm HV.out.2, (((Below.refl _ _).alloc (by simp) _).alloc (by simp) _).trans (hb1.mono (by simp <;> omega))⟩
end Go.Proofs.Ytjdfjgphjdcnmaa
