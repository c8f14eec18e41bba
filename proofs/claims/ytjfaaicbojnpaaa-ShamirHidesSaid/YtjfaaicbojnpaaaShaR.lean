/- The reference of layer 34: bounds, copies, comparisons, values of polynomials. -/
import Derived.Test.YtjfaaicbojnpaaaShaA
import Derived.Test.YtjfaaicbojnpaaaRefC
import Derived.Test.YtjfaaicbojnpaaaStageG
namespace Go.Proofs.Ytjfaaicbojnpaaa
open Go.RowKit Num
set_option linter.unusedSimpArgs false
set_option linter.unusedVariables false

set_option maxHeartbeats 2000000 in
theorem rbelow_any {L : Int} {a : Option Addr} {n c : Nat} {xs : List Int} {v : Bool} (w : World) (h : ShI .u64 w a n xs) (hn0 : n ≤ 1000000) (hv : belowS L xs = v) :
    Calls Try.prog 60 #[.slice a n c, .int .u64 L] w fun e w' => e = .returned (.bool v) ∧ w = w' := by
  have HS := Lib.hid h
  have HV := Lib.hid hv
  have HL := Lib.hid h.len
  clear h hv
  by_cases h8 : n ≤ 8
  case neg =>
    have HZ := Lib.hid (show false = v by rw [← HV.out]; have := HL.out; simp [belowS]; omega)
    have d2 : decide ((n : Int) ≤ 8) = false := by simp; omega
    have d3 : (0 : Int) < (n : Int) := by omega
    have d4 : decide ((1 : Int) ≤ (n : Int)) = true := by simp; omega
    go_enter Try.func60, Try.ntmps60
    go_wp2_with fail
    go_loop [5] (fun c5 => c5 = .int .i64 0) (fun _ => 0)
    case atStart => rfl
    case round =>
      subst hrel
      go_wp2_with fail
      go_ret
      exact ⟨ret_bool HZ.out, rfl⟩
  case pos =>
    have d2 : decide ((n : Int) ≤ 8) = true := by simp; omega
    go_enter Try.func60, Try.ntmps60
    go_wp2_with fail
    go_loop [5] (fun c5 => ∃ k : Nat, k ≤ n ∧ c5 = .int .i64 k ∧ Hid (okAll L (xs.take k) = true)) (fun c5 => n - (intOf c5).toNat)
    case atStart => exact ⟨0, Nat.zero_le _, rfl, rfl⟩
    case round =>
      obtain ⟨k, hk, rfl, HK⟩ := hrel
      by_cases hlt : k < n
      case neg =>
        have hok := okAll_end L xs k (by rw [← HL.out]; omega) HK.out
        by_cases h1 : 1 ≤ n
        case neg =>
          have HZ := Lib.hid (show false = v by rw [← HV.out]; have := HL.out; simp [belowS]; omega)
          have d1 : decide ((1 : Int) ≤ (n : Int)) = false := by simp; omega
          have d5 : decide ((k : Int) < (n : Int)) = false := by simp; omega
          clear hok
          go_wp2_with fail
          go_ret
          exact ⟨ret_bool HZ.out, rfl⟩
        case pos =>
          have HZ := Lib.hid (show true = v by rw [← HV.out]; have h := HL.out; simp [belowS, ← h, h1, h8, hok])
          have d1 : decide ((1 : Int) ≤ (n : Int)) = true := by simp; omega
          have d5 : decide ((k : Int) < (n : Int)) = false := by simp; omega
          clear hok
          go_wp2_with fail
          go_ret
          exact ⟨ret_bool HZ.out, rfl⟩
      case pos =>
        obtain ⟨s, o, hsa, hsl, hck, -⟩ := HS.out.at k hlt
        have hlx : k < xs.length := by rw [← HL.out]; exact hlt
        have hsn := okAll_snoc L xs k hlx
        have hno := okAll_not L xs k hlx
        rw [HK.out] at hsn
        generalize xs.getD k 0 = x at hck hsn hno
        have HN := Lib.hid hno
        have HT := Lib.hid hsn
        clear hno hsn hlx
        subst hsa
        have hk0 : (0 : Int) ≤ (k : Int) := by omega
        have hk1 : (k : Int) < (n : Int) := by omega
        have d5 : decide ((k : Int) < (n : Int)) = true := by simp; omega
        by_cases hx : x < L
        case neg =>
          have hd2 : decide (L ≤ x) = true := by simp; omega
          have HZ := Lib.hid (show false = v by rw [← HV.out]; simp [belowS, HN.out hx])
          go_wp2_with fail
          go_ret
          exact ⟨ret_bool HZ.out, rfl⟩
        case pos =>
          go_wp2_with fail
          go_round
          case rel => exact ⟨k + 1, by omega, by go_num, (by show okAll L (xs.take (k + 1)) = true; rw [HT.out]; simpa using hx)⟩
          case measure => simp [intOf]; omega

set_option maxHeartbeats 1000000 in
theorem rgreat34_any {a : Option Addr} {n c : Nat} {v : Bool} (w : World) (hv : decide (100 < n) = v) :
    Calls Try.prog 13 #[.slice a n c] w fun e w' => e = .returned (.bool v) ∧ w = w' := by
  have HZ := Lib.hid (show decide ((100 : Int) < (n : Int)) = v by rw [← hv]; congr 1; apply propext; omega)
  clear hv
  go_enter Try.func13, Try.ntmps13
  go_wp2_with fail
  go_ret
  exact ⟨ret_bool HZ.out, rfl⟩

set_option maxHeartbeats 2000000 in
theorem rtwin64_any {a : Option Addr} {n c : Nat} {xs : List Int} (w : World) (h : ShI .u64 w a n xs) (hc : a = none → c = 0) (hn : n ≤ 10000) :
    Calls Try.prog 18 #[.slice a n c] w fun e w' => ∃ a' c', e = .returned (.slice a' n c') ∧ ShI .u64 w' a' n xs ∧ Below w.heap.size w w' := by
  obtain ⟨i0, hi, hz0, hz1, hz2⟩ := info_parts (P := Try.prog) (e := 22) (z := .int .u64 0) (size := 1) (bytes := 8) (by kernel_rfl)
  have HS := Lib.hid h
  cases a with
  | none =>
    have hz : n = 0 ∧ xs = [] := by
      rcases h with ⟨h1, h2⟩ | ⟨s, o, h0, -⟩
      · exact ⟨h1, h2⟩
      · cases h0
    obtain ⟨rfl, rfl⟩ := hz
    obtain rfl : c = 0 := hc rfl
    go_enter Try.func18, Try.ntmps18
    go_wp2_with (at_builtin; refine wpList_append_own_none rfl _ _ 25 rfl w.heap.size 22 i0 1 Try.underlying25 hi _ _ _ rfl (World.ownsRow_nil w _ _ _) rfl ?_)
    go_ret
    exact ⟨none, ⟨0, rfl⟩, ShI.nil _ _ _, Below.refl _ _⟩
  | some ad =>
    have hl := h.len
    have HL := Lib.hid (show (xs.map (Value.int IntKind.u64)).length = n * 1 by rw [List.length_map, hl, Nat.mul_one])
    clear h hl
    go_enter Try.func18, Try.ntmps18
    go_wp2_with (at_builtin; refine wpList_append_own _ rfl _ _ 25 rfl w.heap.size 22 i0 (.int .u64 0) 1 8 Try.underlying25 hi hz0 hz1 hz2 rfl (by decide) _ _ _ rfl (World.ownsRow_nil w _ _ _) ad n c (xs.map (Value.int IntKind.u64)) rfl HL.out HS.out.cells (fun u hu => by obtain ⟨x, -, rfl⟩ := List.mem_map.1 hu; rfl) (by unfold maxLen; omega) (by omega) (Nat.le_refl _) ?_; intro v' w1 hown hgr hnil
                 have hB := Lib.hid (Below.grown (Below.refl w.heap.size w) hgr (Nat.le_refl _) (fun k hk => by cases hk))
                 simp only [Nat.zero_add, List.nil_append] at hown
                 obtain ⟨a', c', hv', hS'⟩ := ShI.of_owned hown
                 subst hv'
                 have HS' := Lib.hid hS'
                 clear hown hgr hnil hS')
    go_ret
    exact ⟨_, _, rfl, HS'.out, hB.out⟩

set_option maxHeartbeats 4000000 in
theorem rsame64_any {a b : Option Addr} {n c d : Nat} {xs : List Int} (w : World) (ha : ShI .u64 w a n xs) (hb : ShI .u64 w b n xs) (hn : n ≤ 10000) :
    Calls Try.prog 27 #[.slice a n c, .slice b n d] w fun e w' => e = .returned (.bool true) ∧ Below w.heap.size w w' := by
  have HA := Lib.hid ha
  have HB := Lib.hid hb
  clear ha hb
  go_enter Try.func27, Try.ntmps27
  go_wp2_with fail
  go_loopw [5] (fun c5 wr => ∃ k : Nat, k ≤ n ∧ c5 = .int .i64 k ∧ Hid (Below w.heap.size w wr)) (fun c5 _ => n - (intOf c5).toNat)
  case atStart => exact ⟨0, Nat.zero_le _, rfl, Below.refl _ _⟩
  case round =>
    obtain ⟨k, hk, rfl, HK⟩ := hrel
    by_cases hlt : k < n
    case neg =>
      go_wp2_with fail
      go_ret
      exact ⟨rfl, HK.out⟩
    case pos =>
      obtain ⟨s, o, hsa, hsl, a0, -⟩ := (HA.out.keep HK.out).at k hlt
      obtain ⟨t, p, hta, htl, b0, -⟩ := (HB.out.keep HK.out).at k hlt
      generalize xs.getD k 0 = z at a0 b0
      subst hsa hta
      have hk0 : (0 : Int) ≤ (k : Int) := by omega
      have hk1 : (k : Int) < (n : Int) := by omega
      go_wp2_with fail
      go_region
      go_wp2_with fail
      go_roundw
      case rel => exact ⟨k + 1, by omega, by go_num, HK.out.drew⟩
      case measure => simp [intOf]; omega
end Go.Proofs.Ytjfaaicbojnpaaa
