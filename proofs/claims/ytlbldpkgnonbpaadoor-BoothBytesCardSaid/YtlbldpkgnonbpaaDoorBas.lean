/- Folded: Base, Form, Check, Arith, Inverse. -/
import Derived.Test.YtlbldpkgnonbpaaDoorChecked
import Derived.WalkKit
import Derived.WalkLawsBesides
import Derived.WalkSpells
import Derived.Lib.Hide
import Derived.BigQuiet
import Derived.Outline
import Derived.Deep.RegionWith
import Derived.Deep.DeepFit
import Derived.Deep.DeepMust
import Derived.Deep.LoopGhost
import Derived.OpenShut
import Derived.Test.YtlbldpkgnonbpaaDoorNum
/- The words that all walks of this seat share: the numbers that the group functions compute, and what a call leaves of the world. -/
namespace Go.Proofs.YtlbldpkgnonbpaaDoor
open Go.RowKit

theorem bcell {W w1 : World} (hb : Below W.heap.size W w1) : (∀ b o, b < W.heap.size → w1.cell? ⟨b, o, none⟩ = W.cell? ⟨b, o, none⟩) ∧ (∀ b o, b < W.heap.size → w1.frozen? ⟨b, o, none⟩ = W.frozen? ⟨b, o, none⟩) :=
  ⟨fun b o h => hb.cell (p := ⟨b, o, none⟩) h, fun b o h => hb.frozen (p := ⟨b, o, none⟩) h⟩

theorem ret_int {k : IntKind} {a b : Int} (h : a = b) : Ending.returned (.int k a) = .returned (.int k b) := by rw [h]
theorem ret_bool {a b : Bool} (h : a = b) : Ending.returned (.bool a) = .returned (.bool b) := by rw [h]
theorem ret_two {k l : IntKind} {a b c d : Int} (h : a = b) (h' : c = d) : Ending.returned (.tuple #[.int k a, .int l c]) = .returned (.tuple #[.int k b, .int l d]) := by rw [h, h']
theorem ret_bi {l : IntKind} {a b : Bool} {c d : Int} (h : a = b) (h' : c = d) : Ending.returned (.tuple #[.bool a, .int l c]) = .returned (.tuple #[.bool b, .int l d]) := by rw [h, h']
theorem ret_ib {l : IntKind} {a b : Bool} {c d : Int} (h' : c = d) (h : a = b) : Ending.returned (.tuple #[.int l c, .bool a]) = .returned (.tuple #[.int l d, .bool b]) := by rw [h, h']

/-- A number fits 64 bits. (The bound stands behind a name.) -/
def U64 (x : Int) : Prop := 0 ≤ x ∧ x ≤ 18446744073709551615
theorem U64.of_lt {x : Int} (h : 0 ≤ x) (h' : x < 4611686018427387904) : U64 x := ⟨h, by omega⟩
theorem U64.mono {x y : Int} (h : U64 x) (h0 : 0 ≤ y) (h1 : y ≤ x) : U64 y := ⟨h0, Int.le_trans h1 h.2⟩
theorem U64.wf {x : Int} (h : (Lit.int .u64 x).wf = true) : U64 x := by
  have h := bounds_u64 h
  exact ⟨h.1, h.2⟩
theorem U64.half {x : Int} (h : U64 x) : IntKind.u64.wrap (x.tdiv 2) = x / 2 := by
  rw [Int.tdiv_eq_ediv_of_nonneg h.1, IntKind.wrap_u64]
  have := h.1
  have := h.2
  omega
theorem U64.and_one {x : Int} (h : U64 x) : bits BinOp.and IntKind.u64 x 1 = x % 2 := and_one_u64 x h.1 h.2

/-- A group has the form of a group. -/
def Has (P Q G : Int) : Prop := 5 ≤ P ∧ P < 2147483648 ∧ 0 ≤ Q ∧ P = 2 * Q + 1 ∧ 2 ≤ G ∧ G < P
instance (P Q G : Int) : Decidable (Has P Q G) := by unfold Has; exact inferInstance

/-- The error of a group and of numbers that must be below a limit. -/
def okAll (L : Int) (xs : List Int) : Bool := xs.all fun x => decide (x < L)
def checkS (P Q G L : Int) (xs : List Int) : Int := if Has P Q G then (if okAll L xs then 0 else 2) else 300
end Go.Proofs.YtlbldpkgnonbpaaDoor
/- group.Form: 0 for a group that has the form of a group, 300 for any other. -/
namespace Go.Proofs.YtlbldpkgnonbpaaDoor
open Go.RowKit

set_option maxHeartbeats 400000 in
theorem form_yes (P Q G : Int) (w : World) (h : Has P Q G) :
    Calls Tryd.prog 67 #[.agg #[.int .u64 P, .int .u64 Q, .int .u64 G]] w fun e w' => e = .returned (.int .i64 0) ∧ Below w.heap.size w w' := by
  obtain ⟨a, b, c, d, e, f⟩ := h
  have d' : ¬ (P ≠ 2 * Q + 1) := by omega
  go_enter Tryd.func67, Tryd.ntmps67
  go_wp2
  go_ret
  exact ⟨rfl, (Below.refl _ _).alloc (Nat.le_refl _) _⟩

set_option maxHeartbeats 400000 in
theorem form_no (P Q G : Int) (w : World) (hP : 0 ≤ P) (hQ : 0 ≤ Q) (hG : 0 ≤ G) (h : ¬ Has P Q G) :
    Calls Tryd.prog 67 #[.agg #[.int .u64 P, .int .u64 Q, .int .u64 G]] w fun e w' => e = .returned (.int .i64 300) ∧ Below w.heap.size w w' := by
  have h' : ¬ (5 ≤ P ∧ P < 2147483648 ∧ 0 ≤ Q ∧ P = 2 * Q + 1 ∧ 2 ≤ G ∧ G < P) := h
  clear h
  go_enter Tryd.func67, Tryd.ntmps67
  go_wp2
  all_goals
    go_ret
    exact ⟨rfl, (Below.refl _ _).alloc (Nat.le_refl _) _⟩

/-- What Form gives. -/
def formS (P Q G : Int) : Int := if Has P Q G then 0 else 300
theorem form_any (P Q G : Int) (w : World) (hP : 0 ≤ P) (hQ : 0 ≤ Q) (hG : 0 ≤ G) :
    Calls Tryd.prog 67 #[.agg #[.int .u64 P, .int .u64 Q, .int .u64 G]] w fun e w' => e = .returned (.int .i64 (formS P Q G)) ∧ Below w.heap.size w w' := by
  unfold formS
  split
  · exact form_yes P Q G w ‹_›
  · exact form_no P Q G w hP hQ hG ‹_›
end Go.Proofs.YtlbldpkgnonbpaaDoor
/- group.below, the function that it returns, and group.check: the first error of a group and of numbers. -/
namespace Go.Proofs.YtlbldpkgnonbpaaDoor
open Go.RowKit

set_option maxHeartbeats 400000 in
theorem below1_any (n L : Int) (b : Nat) (w : World) (hb : w.cell? ⟨b, 0, none⟩ = some (.int .u64 L)) :
    Calls Tryd.prog 103 #[.int .u64 n, .pointer (some ⟨b, 0, none⟩)] w fun e w' => e = .returned (.bool (decide (n < L))) ∧ w = w' := by
  go_enter Tryd.func103, Tryd.ntmps103
  go_wp2
  go_ret
  exact ⟨rfl, rfl⟩

theorem okAll_snoc (L : Int) (xs : List Int) (k : Nat) (h : k < xs.length) : okAll L (xs.take (k + 1)) = (okAll L (xs.take k) && decide (xs.getD k 0 < L)) := by
  rw [List.take_succ_eq_append_getElem h]
  simp only [okAll, List.all_append, List.all_cons, List.all_nil, Bool.and_true]
  rw [List.getD_eq_getElem?_getD, List.getElem?_eq_getElem h]; rfl

theorem okAll_not (L : Int) (xs : List Int) (k : Nat) (h : k < xs.length) (hn : ¬ xs.getD k 0 < L) : okAll L xs = false := by
  rw [okAll, List.all_eq_false]
  refine ⟨xs[k], List.getElem_mem h, ?_⟩
  rw [List.getD_eq_getElem?_getD, List.getElem?_eq_getElem h] at hn
  simpa using hn

def argS (L : Int) (xs : List Int) : Int := if okAll L xs then 0 else 2
set_option maxHeartbeats 400000 in
theorem check_has (P Q G L : Int) (xs : List Int) (b s : Nat) (w : World) (hH : Has P Q G) (hb : w.cell? ⟨b, 0, none⟩ = some (.int .u64 L)) (hbl : b < w.heap.size) (hsl : s < w.heap.size)
    (hs : ∀ i, i < xs.length → w.cell? ⟨s, i, none⟩ = some (.int .u64 (xs.getD i 0))) (hlen : xs.length ≤ 8) :
    Calls Tryd.prog 83 #[.agg #[.int .u64 P, .int .u64 Q, .int .u64 G], .func (.func 103) #[] #[.pointer (some ⟨b, 0, none⟩)], .slice (some ⟨s, 0, none⟩) xs.length xs.length] w
      fun e w' => e = .returned (.int .i64 (argS L xs)) ∧ Below w.heap.size w w' := by
  go_enter Tryd.func83, Tryd.ntmps83
  go_wp2_with fail
  refine (form_yes P Q G _ hH).mono ?_
  rintro e w1 ⟨rfl, hb1⟩
  have hb2 := ((Below.refl w.heap.size w).alloc (Nat.le_refl _) _).trans (hb1.mono (by simp))
  clear hb1
  have hb' : w1.cell? ⟨b, 0, none⟩ = some (.int .u64 L) := by rw [hb2.cell (by exact hbl)]; exact hb
  have hs' : ∀ i, i < xs.length → w1.cell? ⟨s, i, none⟩ = some (.int .u64 (xs.getD i 0)) := fun i hi => by rw [hb2.cell (by exact hsl)]; exact hs i hi
  clear hb hs
  have HS := Lib.hid hs'
  clear hs'
  go_wp2
  go_loop [9, 17] (fun _ i => ∃ k : Nat, k ≤ xs.length ∧ i = .int .i64 k ∧ okAll L (xs.take k) = true) (fun _ i => xs.length - (intOf i).toNat)
  case atStart => exact ⟨0, Nat.zero_le _, rfl, rfl⟩
  case round =>
    obtain ⟨k, hk, rfl, hall⟩ := hrel
    have HA := Lib.hid hall
    clear hall
    by_cases hlt : k < xs.length
    · have hck := HS.out k hlt
      have hsn := okAll_snoc L xs k hlt
      have hno := okAll_not L xs k hlt
      rw [HA.out] at hsn
      generalize xs.getD k 0 = v at hck hsn hno
      have HN := Lib.hid hno
      have HT := Lib.hid hsn
      clear hno hsn
      by_cases hv : v < L
      · go_wp2_with (go_at_call 103; refine (below1_any _ L b _ hb').mono ?_; rintro e w' ⟨rfl, rfl⟩)
        go_round
        case rel => exact ⟨k + 1, by omega, by go_num, by rw [HT.out]; simpa using hv⟩
        case measure => simp [intOf]; omega
      · have hd : decide (v < L) = false := by simpa using hv
        go_wp2_with (go_at_call 103; refine (below1_any _ L b _ hb').mono ?_; rintro e w' ⟨rfl, rfl⟩)
        go_ret
        exact ⟨by rw [argS, HN.out (by omega)]; rfl, hb2⟩
    · go_wp2
      go_ret
      exact ⟨by rw [List.take_of_length_le (by omega)] at HA; rw [argS, HA.out]; rfl, hb2⟩

set_option maxHeartbeats 400000 in
theorem check_no (P Q G : Int) (xs : List Int) (b : Addr) (s : Addr) (w : World) (hP : 0 ≤ P) (hQ : 0 ≤ Q) (hG : 0 ≤ G) (hH : ¬ Has P Q G) :
    Calls Tryd.prog 83 #[.agg #[.int .u64 P, .int .u64 Q, .int .u64 G], .func (.func 103) #[] #[.pointer (some b)], .slice (some s) xs.length xs.length] w
      fun e w' => e = .returned (.int .i64 300) ∧ Below w.heap.size w w' := by
  go_enter Tryd.func83, Tryd.ntmps83
  go_wp2_with fail
  refine (form_no P Q G _ hP hQ hG hH).mono ?_
  rintro e w1 ⟨rfl, hb1⟩
  go_wp2
  go_ret
  exact ⟨rfl, ((Below.refl w.heap.size w).alloc (Nat.le_refl _) _).trans (hb1.mono (by simp))⟩

set_option maxHeartbeats 400000 in
theorem below_any (L : Int) (w : World) :
    Calls Tryd.prog 84 #[.int .u64 L] w fun e w' => e = .returned (.func (.func 103) #[] #[.pointer (some ⟨w.heap.size, 0, none⟩)]) ∧ w.alloc (.cells #[.int .u64 L] 24) = w' := by
  go_enter Tryd.func84, Tryd.ntmps84
  go_wp2
  go_ret
  exact ⟨rfl, rfl⟩

/-- Form and numbers in one: the error that check gives. -/
theorem check1 {P Q G L a r : Int} {b s : Nat} {w : World} (hP : 0 ≤ P) (hQ : 0 ≤ Q) (hG : 0 ≤ G) (hr : checkS P Q G L [a] = r) (hb : w.cell? ⟨b, 0, none⟩ = some (.int .u64 L)) (hs : w.cell? ⟨s, 0, none⟩ = some (.int .u64 a)) (hbl : b < w.heap.size) (hsl : s < w.heap.size) :
    Calls Tryd.prog 83 #[.agg #[.int .u64 P, .int .u64 Q, .int .u64 G], .func (.func 103) #[] #[.pointer (some ⟨b, 0, none⟩)], .slice (some ⟨s, 0, none⟩) 1 1] w
      fun e w' => e = .returned (.int .i64 r) ∧ Below w.heap.size w w' := by
  subst hr
  unfold checkS
  split
  · exact check_has P Q G L [a] b s w ‹_› hb hbl hsl (fun i hi => by obtain rfl : i = 0 := by simpa using hi
                                                                     exact hs) (by simp)
  · exact check_no P Q G [a] ⟨b, 0, none⟩ ⟨s, 0, none⟩ w hP hQ hG ‹_›

theorem check2 {P Q G L a c r : Int} {b s : Nat} {w : World} (hP : 0 ≤ P) (hQ : 0 ≤ Q) (hG : 0 ≤ G) (hr : checkS P Q G L [a, c] = r) (hb : w.cell? ⟨b, 0, none⟩ = some (.int .u64 L)) (hs : w.cell? ⟨s, 0, none⟩ = some (.int .u64 a)) (hs1 : w.cell? ⟨s, 1, none⟩ = some (.int .u64 c)) (hbl : b < w.heap.size) (hsl : s < w.heap.size) :
    Calls Tryd.prog 83 #[.agg #[.int .u64 P, .int .u64 Q, .int .u64 G], .func (.func 103) #[] #[.pointer (some ⟨b, 0, none⟩)], .slice (some ⟨s, 0, none⟩) 2 2] w
      fun e w' => e = .returned (.int .i64 r) ∧ Below w.heap.size w w' := by
  subst hr
  unfold checkS
  split
  · exact check_has P Q G L [a, c] b s w ‹_› hb hbl hsl (fun i hi => by
      have : i = 0 ∨ i = 1 := by simp at hi; omega
      rcases this with rfl | rfl
      · exact hs
      · exact hs1) (by simp)
  · exact check_no P Q G [a, c] ⟨b, 0, none⟩ ⟨s, 0, none⟩ w hP hQ hG ‹_›
end Go.Proofs.YtlbldpkgnonbpaaDoor
/- group.power, group.prime, group.IsPrime: what they compute. -/
namespace Go.Proofs.YtlbldpkgnonbpaaDoor
open Go.RowKit Num

set_option maxHeartbeats 400000 in
theorem power_any (a x m r : Int) (w : World) (h0 : 0 ≤ a) (h1 : U64 x) (h2 : 2 ≤ m) (h3 : m < 2147483648) (hr : powm a x m = r) :
    Calls Tryd.prog 85 #[.int .u64 a, .int .u64 x, .int .u64 m] w fun e w' => e = .returned (.int .u64 r) ∧ w = w' := by
  have HR := Lib.hid hr
  clear hr
  have h10 := h1.1
  obtain ⟨x0, hx0⟩ : ∃ x0, x0 = x := ⟨_, rfl⟩
  have hxx : x ≤ x0 := by omega
  have H1 : U64 x0 := by rw [hx0]; exact h1
  clear hx0 h1
  have q0 : 0 ≤ a % m := Int.emod_nonneg _ (by omega)
  have q1 : a % m < m := Int.emod_lt_of_pos _ (by omega)
  have HS : Hid (1 * powm (a % m) x m % m = r) := Lib.hid (by
    rw [Int.one_mul, powm_base (cg_emod m a), HR.out]; rw [← HR.out]; exact Int.emod_eq_of_lt (powm_nonneg (by omega)) (powm_lt (by omega)))
  go_enter Tryd.func85, Tryd.ntmps85
  go_wp2
  go_loop [0, 1, 7] (fun a x o => ∃ aa xx oo : Int, 0 ≤ aa ∧ aa < m ∧ 0 ≤ oo ∧ oo < m ∧ 0 ≤ xx ∧ xx ≤ x0 ∧ oo * powm aa xx m % m = r ∧ a = .int .u64 aa ∧ x = .int .u64 xx ∧ o = .int .u64 oo) (fun _ x _ => (intOf x).toNat)
  case atStart => exact ⟨a % m, x, 1, q0, q1, by omega, by omega, h10, hxx, HS.out, rfl, rfl, rfl⟩
  case round =>
    obtain ⟨aa, xx, oo, b1, b2, b3, b4, b5, b6, hs, rfl, rfl, rfl⟩ := hrel
    have HI := Lib.hid hs
    clear hs HS q0 q1
    obtain ⟨m1, m2⟩ := mul_bound b3 (by omega) b1 (by omega)
    obtain ⟨m3, m4⟩ := mul_bound b1 (by omega) b1 (by omega)
    have n0 : 0 ≤ aa * aa % m := Int.emod_nonneg _ (by omega)
    have n1 : aa * aa % m < m := Int.emod_lt_of_pos _ (by omega)
    have n2 : 0 ≤ oo * aa % m := Int.emod_nonneg _ (by omega)
    have n3 : oo * aa % m < m := Int.emod_lt_of_pos _ (by omega)
    by_cases hx : 0 < xx
    · by_cases hb : xx % 2 = 1
      · have ht : (bits BinOp.and IntKind.u64 xx 1 == 1) = true := by rw [(H1.mono b5 b6).and_one, hb]; rfl
        have HB := Lib.hid hb
        clear hb
        go_wp2
        go_round
        case rel => exact ⟨_, _, _, n0, n1, n2, n3, by omega, by omega, by rw [powm_odd b5 HB.out, HI.out], rfl, rfl, rfl⟩
        case measure => simp [intOf]; omega
      · have ht : (bits BinOp.and IntKind.u64 xx 1 == 1) = false := by rw [(H1.mono b5 b6).and_one]; simpa using hb
        have HB := Lib.hid hb
        clear hb
        go_wp2
        go_round
        case rel => exact ⟨_, _, _, n0, n1, b3, b4, by omega, by omega, by rw [powm_even b5 (by have := HB.out; omega), HI.out], rfl, rfl, rfl⟩
        case measure => simp [intOf]; omega
    · obtain rfl : xx = 0 := by omega
      go_wp2
      go_ret
      have e : oo = r := by
        rw [← HI.out, powm_zero, Int.emod_eq_of_lt (show (0:Int) ≤ 1 by omega) (show 1 < m by omega), Int.mul_one]
        exact (Int.emod_eq_of_lt b3 b4).symm
      exact ⟨ret_int e, rfl⟩

theorem sq_bound {d n : Int} (d0 : 0 ≤ d) (h : d * d ≤ n) (hn : n < 2147483648) : d ≤ 46340 := by
  rcases Int.lt_or_le 46340 d with h1 | h1
  · have : 46341 * 46341 ≤ d * d := Int.mul_le_mul (by omega) (by omega) (by omega) d0
    omega
  · exact h1

set_option maxHeartbeats 400000 in
theorem prime_any (n : Int) (r : Bool) (w : World) (h0 : 0 ≤ n) (h1 : n < 2147483648) (hr : r = true ↔ Pr n) :
    Calls Tryd.prog 86 #[.int .u64 n] w fun e w' => e = .returned (.bool r) ∧ w = w' := by
  have HR := Lib.hid hr
  clear hr
  by_cases h4 : n < 4
  · have hv : decide (1 < n) = r := by
      have h := HR.out
      rw [pr_small h4] at h
      rw [Bool.eq_iff_iff, h]; simp
    have HV := Lib.hid hv
    clear hv
    go_enter Tryd.func86, Tryd.ntmps86
    go_wp2
    go_ret
    exact ⟨ret_bool HV.out, rfl⟩
  by_cases he : n % 2 = 0
  · have hb : (n % 2 == 0) = true := by simpa using he
    have hv : r = false := by
      have h := HR.out
      cases r
      · rfl
      · exact absurd (h.1 rfl) (not_pr_even (by omega) he)
    have HV := Lib.hid hv
    clear hv he
    go_enter Tryd.func86, Tryd.ntmps86
    go_wp2
    go_ret
    exact ⟨ret_bool HV.out.symm, rfl⟩
  have hb : (n % 2 == 0) = false := by simpa using he
  have HE := Lib.hid he
  clear he
  go_enter Tryd.func86, Tryd.ntmps86
  go_wp2
  go_loop [3] (fun d => ∃ dd : Int, 3 ≤ dd ∧ dd ≤ 46343 ∧ dd % 2 = 1 ∧ Hid (Tried n dd) ∧ d = .int .u64 dd) (fun d => (46400 - intOf d).toNat)
  case atStart => exact ⟨3, by omega, by omega, by omega, Lib.hid (tried_three HE.out), rfl⟩
  case round =>
    obtain ⟨d, d3, dm, d2, HT, rfl⟩ := hrel
    have HD := Lib.hid d2
    clear d2 hb
    obtain ⟨m1, m2⟩ := mul_bound (a := d) (b := d) (by omega) (by omega) (by omega) (by omega)
    by_cases hd : d * d ≤ n
    · have hdb := sq_bound (by omega) hd h1
      by_cases hm : n % d = 0
      · have hmb : (n % d == 0) = true := by simpa using hm
        have HV := Lib.hid (not_pr_of_dvd (by omega) hm hd)
        clear hm
        go_wp2
        go_ret
        have hv : r = false := by
          have h := HR.out
          cases r
          · rfl
          · exact absurd (h.1 rfl) HV.out
        exact ⟨ret_bool hv.symm, rfl⟩
      · have hmb : (n % d == 0) = false := by simpa using hm
        have HV := Lib.hid (HT.out.next2 hm HD.out HE.out)
        clear hm
        go_wp2
        go_round
        case rel => exact ⟨d + 2, by omega, by omega, by have := HD.out; omega, HV, rfl⟩
        case measure => simp [intOf]; omega
    · have HV := Lib.hid (HT.out.pr (by omega) (by omega) (by omega))
      go_wp2
      go_ret
      exact ⟨ret_bool (HR.out.2 HV.out).symm, rfl⟩

end Go.Proofs.YtlbldpkgnonbpaaDoor
/- group.inverse: the inverse modulo m by Euclid's algorithm. -/
namespace Go.Proofs.YtlbldpkgnonbpaaDoor
open Go.RowKit Num

end Go.Proofs.YtlbldpkgnonbpaaDoor
