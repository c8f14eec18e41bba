/- group.below, the function that it returns, and group.check: the first error of a group and of numbers. -/
import Derived.Test.YtjfaaicbojnpaaaForm
namespace Go.Proofs.Ytjfaaicbojnpaaa
open Go.RowKit

set_option maxHeartbeats 400000 in
theorem below1_any (n L : Int) (b : Nat) (w : World) (hb : w.cell? ⟨b, 0, none⟩ = some (.int .u64 L)) :
    Calls Try.prog 97 #[.int .u64 n, .pointer (some ⟨b, 0, none⟩)] w fun e w' => e = .returned (.bool (decide (n < L))) ∧ w = w' := by
  go_enter Try.func97, Try.ntmps97
  go_wp2
  go_ret
  exact ⟨rfl, rfl⟩

theorem okAll_snoc (L : Int) (xs : List Int) (k : Nat) (h : k < xs.length) : okAll L (xs.take (k + 1)) = (okAll L (xs.take k) && decide (xs.getD k 0 < L)) := by
  rw [List.take_succ_eq_append_getElem h]
  simp only [okAll, List.all_append, List.all_cons, List.all_nil, Bool.and_true]
  rw [List.getD_eq_getElem?_getD, List.getElem?_eq_getElem h]; rfl

theorem okAll_not (L : Int) (xs : List Int) (k : Nat) (h : k < xs.length) (hn : ¬ xs.getD k 0 < L) : okAll L xs = false := by
  rw [okAll, List.all_eq_false]
  refine ⟨xs[k], List.getElem_mem h, ?_⟩
  rw [List.getD_eq_getElem?_getD, List.getElem?_eq_getElem h] at hn
  simpa using hn

def argS (L : Int) (xs : List Int) : Int := if okAll L xs then 0 else 2
set_option maxHeartbeats 400000 in
theorem check_has (P Q G L : Int) (xs : List Int) (b s : Nat) (w : World) (hH : Has P Q G) (hb : w.cell? ⟨b, 0, none⟩ = some (.int .u64 L)) (hbl : b < w.heap.size) (hsl : s < w.heap.size)
    (hs : ∀ i, i < xs.length → w.cell? ⟨s, i, none⟩ = some (.int .u64 (xs.getD i 0))) (hlen : xs.length ≤ 8) :
    Calls Try.prog 78 #[.agg #[.int .u64 P, .int .u64 Q, .int .u64 G], .func (.func 97) #[] #[.pointer (some ⟨b, 0, none⟩)], .slice (some ⟨s, 0, none⟩) xs.length xs.length] w
      fun e w' => e = .returned (.int .i64 (argS L xs)) ∧ Below w.heap.size w w' := by
  go_enter Try.func78, Try.ntmps78
  go_wp2_with fail
  refine (form_yes P Q G _ hH).mono ?_
  rintro e w1 ⟨rfl, hb1⟩
  have hb2 := ((Below.refl w.heap.size w).alloc (Nat.le_refl _) _).trans (hb1.mono (by simp))
  clear hb1
  have hb' : w1.cell? ⟨b, 0, none⟩ = some (.int .u64 L) := by rw [hb2.cell (by exact hbl)]; exact hb
  have hs' : ∀ i, i < xs.length → w1.cell? ⟨s, i, none⟩ = some (.int .u64 (xs.getD i 0)) := fun i hi => by rw [hb2.cell (by exact hsl)]; exact hs i hi
  clear hb hs
  have HS := Lib.hid hs'
  clear hs'
  go_wp2
  go_loop [9, 17] (fun _ i => ∃ k : Nat, k ≤ xs.length ∧ i = .int .i64 k ∧ okAll L (xs.take k) = true) (fun _ i => xs.length - (intOf i).toNat)
  case atStart => exact ⟨0, Nat.zero_le _, rfl, rfl⟩
  case round =>
    obtain ⟨k, hk, rfl, hall⟩ := hrel
    have HA := Lib.hid hall
    clear hall
    by_cases hlt : k < xs.length
    · have hck := HS.out k hlt
      have hsn := okAll_snoc L xs k hlt
      have hno := okAll_not L xs k hlt
      rw [HA.out] at hsn
      generalize xs.getD k 0 = v at hck hsn hno
      have HN := Lib.hid hno
      have HT := Lib.hid hsn
      clear hno hsn
      by_cases hv : v < L
      · go_wp2_with (go_at_call 97; refine (below1_any _ L b _ hb').mono ?_; rintro e w' ⟨rfl, rfl⟩)
        go_round
        case rel => exact ⟨k + 1, by omega, by go_num, by rw [HT.out]; simpa using hv⟩
        case measure => simp [intOf]; omega
      · have hd : decide (v < L) = false := by simpa using hv
        go_wp2_with (go_at_call 97; refine (below1_any _ L b _ hb').mono ?_; rintro e w' ⟨rfl, rfl⟩)
        go_ret
        exact ⟨by rw [argS, HN.out (by omega)]; rfl, hb2⟩
    · go_wp2
      go_ret
      exact ⟨by rw [List.take_of_length_le (by omega)] at HA; rw [argS, HA.out]; rfl, hb2⟩

set_option maxHeartbeats 400000 in
theorem check_no (P Q G : Int) (xs : List Int) (b : Addr) (s : Addr) (w : World) (hP : 0 ≤ P) (hQ : 0 ≤ Q) (hG : 0 ≤ G) (hH : ¬ Has P Q G) :
    Calls Try.prog 78 #[.agg #[.int .u64 P, .int .u64 Q, .int .u64 G], .func (.func 97) #[] #[.pointer (some b)], .slice (some s) xs.length xs.length] w
      fun e w' => e = .returned (.int .i64 300) ∧ Below w.heap.size w w' := by
  go_enter Try.func78, Try.ntmps78
  go_wp2_with fail
  refine (form_no P Q G _ hP hQ hG hH).mono ?_
  rintro e w1 ⟨rfl, hb1⟩
  go_wp2
  go_ret
  exact ⟨rfl, ((Below.refl w.heap.size w).alloc (Nat.le_refl _) _).trans (hb1.mono (by simp))⟩

set_option maxHeartbeats 400000 in
theorem below_any (L : Int) (w : World) :
    Calls Try.prog 79 #[.int .u64 L] w fun e w' => e = .returned (.func (.func 97) #[] #[.pointer (some ⟨w.heap.size, 0, none⟩)]) ∧ w.alloc (.cells #[.int .u64 L] 22) = w' := by
  go_enter Try.func79, Try.ntmps79
  go_wp2
  go_ret
  exact ⟨rfl, rfl⟩

/-- Form and numbers in one: the error that check gives. -/
theorem check1 {P Q G L a r : Int} {b s : Nat} {w : World} (hP : 0 ≤ P) (hQ : 0 ≤ Q) (hG : 0 ≤ G) (hr : checkS P Q G L [a] = r) (hb : w.cell? ⟨b, 0, none⟩ = some (.int .u64 L)) (hs : w.cell? ⟨s, 0, none⟩ = some (.int .u64 a)) (hbl : b < w.heap.size) (hsl : s < w.heap.size) :
    Calls Try.prog 78 #[.agg #[.int .u64 P, .int .u64 Q, .int .u64 G], .func (.func 97) #[] #[.pointer (some ⟨b, 0, none⟩)], .slice (some ⟨s, 0, none⟩) 1 1] w
      fun e w' => e = .returned (.int .i64 r) ∧ Below w.heap.size w w' := by
  subst hr
  unfold checkS
  split
  · exact check_has P Q G L [a] b s w ‹_› hb hbl hsl (fun i hi => by obtain rfl : i = 0 := by simpa using hi
                                                                     exact hs) (by simp)
  · exact check_no P Q G [a] ⟨b, 0, none⟩ ⟨s, 0, none⟩ w hP hQ hG ‹_›

theorem check2 {P Q G L a c r : Int} {b s : Nat} {w : World} (hP : 0 ≤ P) (hQ : 0 ≤ Q) (hG : 0 ≤ G) (hr : checkS P Q G L [a, c] = r) (hb : w.cell? ⟨b, 0, none⟩ = some (.int .u64 L)) (hs : w.cell? ⟨s, 0, none⟩ = some (.int .u64 a)) (hs1 : w.cell? ⟨s, 1, none⟩ = some (.int .u64 c)) (hbl : b < w.heap.size) (hsl : s < w.heap.size) :
    Calls Try.prog 78 #[.agg #[.int .u64 P, .int .u64 Q, .int .u64 G], .func (.func 97) #[] #[.pointer (some ⟨b, 0, none⟩)], .slice (some ⟨s, 0, none⟩) 2 2] w
      fun e w' => e = .returned (.int .i64 r) ∧ Below w.heap.size w w' := by
  subst hr
  unfold checkS
  split
  · exact check_has P Q G L [a, c] b s w ‹_› hb hbl hsl (fun i hi => by
      have : i = 0 ∨ i = 1 := by simp at hi; omega
      rcases this with rfl | rfl
      · exact hs
      · exact hs1) (by simp)
  · exact check_no P Q G [a, c] ⟨b, 0, none⟩ ⟨s, 0, none⟩ w hP hQ hG ‹_›
end Go.Proofs.Ytjfaaicbojnpaaa
