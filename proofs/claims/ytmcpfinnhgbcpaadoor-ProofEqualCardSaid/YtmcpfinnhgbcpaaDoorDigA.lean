/- Rotations and words: bits.RotateLeft32, digest.right, digest.word; the reference's turned and word. -/
import Derived.Test.YtmcpfinnhgbcpaaDoorDig
import Derived.BigQuiet
namespace Go.Proofs.YtmcpfinnhgbcpaaDoor
open Go Go.RowKit Sha
set_option linter.unusedSimpArgs false
set_option linter.unusedVariables false

theorem and31 (n : Nat) (h1 : 1 ≤ n) (h2 : n ≤ 31) : bits .and .u64 (IntKind.u64.wrap (-(n : Int))) 31 = 32 - n := by
  have : n = 1 ∨ n = 2 ∨ n = 3 ∨ n = 4 ∨ n = 5 ∨ n = 6 ∨ n = 7 ∨ n = 8 ∨ n = 9 ∨ n = 10 ∨ n = 11 ∨ n = 12 ∨ n = 13 ∨ n = 14 ∨ n = 15 ∨ n = 16 ∨ n = 17 ∨ n = 18 ∨ n = 19 ∨ n = 20 ∨ n = 21 ∨ n = 22 ∨ n = 23 ∨ n = 24 ∨ n = 25 ∨ n = 26 ∨ n = 27 ∨ n = 28 ∨ n = 29 ∨ n = 30 ∨ n = 31 := by omega
  rcases this with rfl | rfl | rfl | rfl | rfl | rfl | rfl | rfl | rfl | rfl | rfl | rfl | rfl | rfl | rfl | rfl | rfl | rfl | rfl | rfl | rfl | rfl | rfl | rfl | rfl | rfl | rfl | rfl | rfl | rfl | rfl <;> decide

set_option maxHeartbeats 1000000 in
theorem dRot_any {x v : Int} {n : Nat} (w : World) (h1 : 1 ≤ n) (h2 : n ≤ 31) (hv : rot x n = v) :
    Calls Tryd.prog 99 #[.int .u32 x, .int .i64 (-(n : Int))] w fun e w' => e = .returned (.int .u32 v) ∧ w = w' := by
  have hs := and31 n h1 h2
  have HV := Lib.hid hv
  clear hv
  have hm : min ((32 : Int) - n).toNat 32 = 32 - n := by omega
  have hw : IntKind.u64.wrap (32 - ((32 : Int) - n)) = n := by rw [IntWalk.u64_in _ (by omega)]; omega
  have hp : (0 : Int) ≤ 32 - (n : Int) := by omega
  go_enter Tryd.func99, Tryd.ntmps99
  go_wp2_with fail
  go_ret
  exact ⟨ret_int (by rw [← HV.out, rot, orI_comm]; rfl), rfl⟩

set_option maxHeartbeats 1000000 in
theorem dright_any {x v : Int} {n : Nat} (w : World) (h1 : 1 ≤ n) (h2 : n ≤ 31) (hv : rot x n = v) :
    Calls Tryd.prog 94 #[.int .u32 x, .int .i64 n] w fun e w' => e = .returned (.int .u32 v) ∧ ∃ n, w' = w.drewN n := by
  have HV := Lib.hid hv
  clear hv
  go_enter Tryd.func94, Tryd.ntmps94
  go_wp2_with fail
  refine (dRot_any w h1 h2 HV.out).mono ?_
  rintro e w1 ⟨rfl, rfl⟩
  go_wp2_with fail
  go_ret
  exact ⟨rfl, 0, rfl⟩

set_option maxHeartbeats 1000000 in
theorem rturned_any {x v : Int} {n : Nat} (w : World) (h1 : 1 ≤ n) (h2 : n ≤ 31) (hv : rot x n = v) :
    Calls Tryd.prog 96 #[.int .u32 x, .int .i64 n] w fun e w' => e = .returned (.int .u32 v) ∧ ∃ n, w' = w.drewN n := by
  have HV := Lib.hid hv
  clear hv
  have hn0 : (0 : Int) ≤ (n : Int) := by omega
  have hm : min n 32 = n := by omega
  have hm2 : min ((32 : Int) - n).toNat 32 = 32 - n := by omega
  have hp : (0 : Int) ≤ 32 - (n : Int) := by omega
  go_enter Tryd.func96, Tryd.ntmps96
  go_wp2_with fail
  go_quiet (fail)
  go_wp2_with fail
  go_ret
  exact ⟨ret_int (by rw [← HV.out, rot]; rfl), _, rfl⟩

theorem dright_z {x z : Int} (w : World) (h1 : 1 ≤ z) (h2 : z ≤ 31) :
    Calls Tryd.prog 94 #[.int .u32 x, .int .i64 z] w fun e w' => e = .returned (.int .u32 (rot x z.toNat)) ∧ ∃ n, w' = w.drewN n := by
  obtain ⟨n, rfl⟩ : ∃ n : Nat, z = n := ⟨z.toNat, by omega⟩
  exact dright_any w (by omega) (by omega) rfl
theorem rturned_z {x z : Int} (w : World) (h1 : 1 ≤ z) (h2 : z ≤ 31) :
    Calls Tryd.prog 96 #[.int .u32 x, .int .i64 z] w fun e w' => e = .returned (.int .u32 (rot x z.toNat)) ∧ ∃ n, w' = w.drewN n := by
  obtain ⟨n, rfl⟩ : ∃ n : Nat, z = n := ⟨z.toNat, by omega⟩
  exact rturned_any w (by omega) (by omega) rfl

theorem wraps32 (n : Int) (h₀ : 0 ≤ n) (h₁ : n < 2 ^ 32) : IntKind.u32.wrap n = n := by rw [wrapM]; omega
theorem or24 {a b : Int} (a0 : 0 ≤ a) (a1 : a < 256) (b0 : 0 ≤ b) (b1 : b < 256) : bits .or .u32 (a * 16777216) (b * 65536) = a * 16777216 + b * 65536 :=
  bits_join .u32 32 (by decide) wraps32 24 _ _ (by omega) (by omega) (by omega) (by omega) (by omega) (by omega)
theorem or16 {a b c : Int} (a0 : 0 ≤ a) (a1 : a < 256) (b0 : 0 ≤ b) (b1 : b < 256) (c0 : 0 ≤ c) (c1 : c < 256) : bits .or .u32 (a * 16777216 + b * 65536) (c * 256) = a * 16777216 + b * 65536 + c * 256 :=
  bits_join .u32 32 (by decide) wraps32 16 _ _ (by omega) (by omega) (by omega) (by omega) (by omega) (by omega)
theorem or8 {a b c d : Int} (a0 : 0 ≤ a) (a1 : a < 256) (b0 : 0 ≤ b) (b1 : b < 256) (c0 : 0 ≤ c) (c1 : c < 256) (d0 : 0 ≤ d) (d1 : d < 256) : bits .or .u32 (a * 16777216 + b * 65536 + c * 256) d = a * 16777216 + b * 65536 + c * 256 + d :=
  bits_join .u32 32 (by decide) wraps32 8 _ _ (by omega) (by omega) (by omega) (by omega) (by omega) (by omega)

set_option maxHeartbeats 1000000 in
theorem dword_any {a b c d v : Int} {s o n m : Nat} (w : World) (hn : 4 ≤ n) (a0 : 0 ≤ a) (a1 : a < 256) (b0 : 0 ≤ b) (b1 : b < 256) (c0 : 0 ≤ c) (c1 : c < 256) (d0 : 0 ≤ d) (d1 : d < 256)
    (h0 : w.cell? ⟨s, o, none⟩ = some (.int .u8 a)) (h1 : w.cell? ⟨s, o + 1, none⟩ = some (.int .u8 b)) (h2 : w.cell? ⟨s, o + 2, none⟩ = some (.int .u8 c)) (h3 : w.cell? ⟨s, o + 3, none⟩ = some (.int .u8 d)) (hv : a * 16777216 + b * 65536 + c * 256 + d = v) :
    Calls Tryd.prog 98 #[.slice (some ⟨s, o, none⟩) n m] w fun e w' => e = .returned (.int .u32 v) ∧ ∃ n, w' = w.drewN n := by
  have HV := Lib.hid hv
  clear hv
  have o1 := or24 a0 a1 b0 b1
  have o2 := or16 a0 a1 b0 b1 c0 c1
  have o3 := or8 a0 a1 b0 b1 c0 c1 d0 d1
  have n0 : (0 : Int) < (n : Int) := by omega
  have n1 : (1 : Int) < (n : Int) := by omega
  have n2 : (2 : Int) < (n : Int) := by omega
  have n3 : (3 : Int) < (n : Int) := by omega
  go_enter Tryd.func98, Tryd.ntmps98
  go_wp2_with fail
  go_quiet (fail)
  go_wp2_with fail
  go_ret
  exact ⟨ret_int HV.out, _, rfl⟩

set_option maxHeartbeats 1000000 in
theorem rword_any {a b c d v : Int} {s o n m k : Nat} (w : World) (hn : k + 4 ≤ n) (hn2 : n < 1000000000) (a0 : 0 ≤ a) (a1 : a < 256) (b0 : 0 ≤ b) (b1 : b < 256) (c0 : 0 ≤ c) (c1 : c < 256) (d0 : 0 ≤ d) (d1 : d < 256)
    (h0 : w.cell? ⟨s, o + k, none⟩ = some (.int .u8 a)) (h1 : w.cell? ⟨s, o + (k + 1), none⟩ = some (.int .u8 b)) (h2 : w.cell? ⟨s, o + (k + 2), none⟩ = some (.int .u8 c)) (h3 : w.cell? ⟨s, o + (k + 3), none⟩ = some (.int .u8 d)) (hv : a * 16777216 + b * 65536 + c * 256 + d = v) :
    Calls Tryd.prog 95 #[.slice (some ⟨s, o, none⟩) n m, .int .i64 k] w fun e w' => e = .returned (.int .u32 v) ∧ ∃ n, w' = w.drewN n := by
  have HV := Lib.hid hv
  clear hv
  have o1 := or24 a0 a1 b0 b1
  have o2 := or16 a0 a1 b0 b1 c0 c1
  have o3 := or8 a0 a1 b0 b1 c0 c1 d0 d1
  have k0 : (0 : Int) ≤ (k : Int) := by omega
  have n0 : (k : Int) < (n : Int) := by omega
  have n1 : (k : Int) + 1 < (n : Int) := by omega
  have n2 : (k : Int) + 2 < (n : Int) := by omega
  have n3 : (k : Int) + 3 < (n : Int) := by omega
  have e1 : ((k : Int) + 1).toNat = k + 1 := by omega
  have e2 : ((k : Int) + 2).toNat = k + 2 := by omega
  have e3 : ((k : Int) + 3).toNat = k + 3 := by omega
  go_enter Tryd.func95, Tryd.ntmps95
  go_wp2_with fail
  go_quiet (fail)
  go_wp2_with fail
  go_ret
  exact ⟨ret_int HV.out, _, rfl⟩
end Go.Proofs.YtmcpfinnhgbcpaaDoor
