/- GroupNames: the statement: for every input the law returns true, and the arguments read as before. -/
import Derived.Test.YtjdfjgphjdcnmaaAux30
import Derived.Test.YtjdfjgphjdcnmaaOpen
import Derived.Test.YtjdfjgphjdcnmaaRows
namespace Go.Proofs.Ytjdfjgphjdcnmaa.lawNames
open Go.ChangeShapes Go.WideShapes Go.ChangeAt Go.RowKit Num
set_option linter.unusedSimpArgs false
set_option linter.unusedVariables false

/-- Powers by squaring, for the kernel. -/
def pw (m a : Nat) : Nat → Nat → Nat
  | 0, _ => 1 % m
  | k + 1, x => if x % 2 = 1 then (pw m a k (x / 2) * pw m a k (x / 2) % m) * a % m else pw m a k (x / 2) * pw m a k (x / 2) % m
theorem pw_eq (m a : Nat) : ∀ (k x : Nat), x < 2 ^ k → pw m a k x = a ^ x % m
  | 0, x, h => by
      obtain rfl : x = 0 := by simp at h; omega
      simp [pw]
  | k + 1, x, h => by
      rw [Nat.pow_succ] at h
      have ih := pw_eq m a k (x / 2) (by omega)
      unfold pw
      rw [ih]
      have e2 : a ^ (x / 2) % m * (a ^ (x / 2) % m) % m = a ^ (x / 2 + x / 2) % m := by rw [← Nat.mul_mod, ← Nat.pow_add]
      rw [e2]
      split
      · have hx : a ^ x = a ^ (x / 2 + x / 2) * a := by rw [← Nat.pow_succ]; congr 1; omega
        rw [hx, Nat.mul_mod, Nat.mod_mod, ← Nat.mul_mod]
      · congr 2; omega
theorem valid_default : Valid 1000000007 500000003 4 := by
  refine ⟨by unfold Has; omega, prP, prQ, powm_nat 4 500000003 1000000007 1 ?_⟩
  rw [← pw_eq 1000000007 4 29 500000003 (by decide)]
  decide +kernel
theorem p4 (x r : Nat) (h : 4 ^ x % 23 = r) : powm 4 (x : Int) 23 = (r : Int) := powm_nat 4 x 23 r h
theorem log3 : LogS 23 4 18 10 3 0 := .inl ⟨by omega, by omega, p4 3 18 (by decide), fun y y0 y1 => by
  have : y = 0 ∨ y = 1 ∨ y = 2 := by omega
  rcases this with rfl | rfl | rfl
  · rw [show powm 4 0 23 = 1 from p4 0 1 (by decide)]; decide
  · rw [show powm 4 1 23 = 4 from p4 1 4 (by decide)]; decide
  · rw [show powm 4 2 23 = 16 from p4 2 16 (by decide)]; decide, rfl⟩
theorem log2 : LogS 23 4 18 2 0 6 := .inr ⟨fun y y0 y1 => by
  have : y = 0 ∨ y = 1 ∨ y = 2 := by omega
  rcases this with rfl | rfl | rfl
  · rw [show powm 4 0 23 = 1 from p4 0 1 (by decide)]; decide
  · rw [show powm 4 1 23 = 4 from p4 1 4 (by decide)]; decide
  · rw [show powm 4 2 23 = 16 from p4 2 16 (by decide)]; decide, rfl, rfl⟩
theorem not_mem5 : ¬ Mem 23 11 5 := fun h => by
  have h1 := h.2.2
  rw [show powm 5 11 23 = 22 from powm_nat 5 11 23 22 (by decide)] at h1
  exact absurd h1 (by decide)
theorem mem18 : Mem 23 11 18 := ⟨by omega, by omega, powm_nat 18 11 23 1 (by decide)⟩
theorem has_odd : Has 21 10 4 := by unfold Has; omega
theorem not_valid_odd : ¬ Valid 21 10 4 := fun h => not_pr21 h.2.1
theorem not_valid_five : ¬ Valid 23 11 5 := fun h => by
  have h1 := h.2.2.2
  rw [show powm 5 11 23 = 22 from powm_nat 5 11 23 22 (by decide)] at h1
  exact absurd h1 (by decide)
theorem not_has_twelve : ¬ Has 23 12 4 := by unfold Has; omega
theorem not_has_23 : ¬ Has 23 11 23 := by unfold Has; omega
theorem chk_small (L : Int) (xs : List Int) (h : okAll L xs = false) : checkS 23 11 4 L xs = 2 := by rw [checkS, if_pos has_small, h]; rfl

set_option maxRecDepth 100000 in
set_option maxHeartbeats 6400000 in
theorem walk (w : World) :
    Calls Try.prog 13 #[] w fun e w' => e = .returned (.bool true) ∧ Below w.heap.size w w' := by
  have hx0 := Boxed.new w 21 10 4 24
  go_enter Try.func13, Try.ntmps13
  go_wp2_with fail
  refine (small_any _).mono ?_
  rintro e w1 ⟨rfl, hb1⟩
  have hx1 : Boxed w1 (w.heap.size) 21 10 4 := Boxed.keep (by repeat (first | exact hx0 | apply Boxed.drew | apply Boxed.alloc)) hb1
  have gc0 := hx1.c0
  have gc1 := hx1.c1
  have gc2 := hx1.c2
  have gcl := hx1.lt
  have hz := hb1.size
  try simp only [World.size_alloc, World.size_drew] at hz
  go_wp2_with fail
  refine (member_ok 23 11 4 5 false _ has_small (by omega) (by omega) (by simp [not_mem5])).mono ?_
  rintro e w2 ⟨rfl, hb2⟩
  have hx2 : Boxed w2 (w.heap.size) 21 10 4 := Boxed.keep (by repeat (first | exact hx1 | apply Boxed.drew | apply Boxed.alloc)) hb2
  have gc0 := hx2.c0
  have gc1 := hx2.c1
  have gc2 := hx2.c2
  have gcl := hx2.lt
  have hz := hb2.size
  try simp only [World.size_alloc, World.size_drew] at hz
  go_wp2_with fail
  refine (small_any _).mono ?_
  rintro e w3 ⟨rfl, hb3⟩
  have hx3 : Boxed w3 (w.heap.size) 21 10 4 := Boxed.keep (by repeat (first | exact hx2 | apply Boxed.drew | apply Boxed.alloc)) hb3
  have gc0 := hx3.c0
  have gc1 := hx3.c1
  have gc2 := hx3.c2
  have gcl := hx3.lt
  have hz := hb3.size
  try simp only [World.size_alloc, World.size_drew] at hz
  go_wp2_with fail
  refine (member_ok 23 11 4 18 true _ has_small (by omega) (by omega) (by simp [mem18])).mono ?_
  rintro e w4 ⟨rfl, hb4⟩
  have hx4 : Boxed w4 (w.heap.size) 21 10 4 := Boxed.keep (by repeat (first | exact hx3 | apply Boxed.drew | apply Boxed.alloc)) hb4
  have gc0 := hx4.c0
  have gc1 := hx4.c1
  have gc2 := hx4.c2
  have gcl := hx4.lt
  have hz := hb4.size
  try simp only [World.size_alloc, World.size_drew] at hz
  go_wp2_with fail
  refine (small_any _).mono ?_
  rintro e w5 ⟨rfl, hb5⟩
  have hx5 : Boxed w5 (w.heap.size) 21 10 4 := Boxed.keep (by repeat (first | exact hx4 | apply Boxed.drew | apply Boxed.alloc)) hb5
  have gc0 := hx5.c0
  have gc1 := hx5.c1
  have gc2 := hx5.c2
  have gcl := hx5.lt
  have hz := hb5.size
  try simp only [World.size_alloc, World.size_drew] at hz
  go_wp2_with fail
  refine (log_ok 23 11 4 18 10 3 0 _ has_small (by omega) (by omega) (by omega) log3).mono ?_
  rintro e w6 ⟨rfl, hb6⟩
  have hx6 : Boxed w6 (w.heap.size) 21 10 4 := Boxed.keep (by repeat (first | exact hx5 | apply Boxed.drew | apply Boxed.alloc)) hb6
  have gc0 := hx6.c0
  have gc1 := hx6.c1
  have gc2 := hx6.c2
  have gcl := hx6.lt
  have hz := hb6.size
  try simp only [World.size_alloc, World.size_drew] at hz
  go_wp2_with fail
  refine (small_any _).mono ?_
  rintro e w7 ⟨rfl, hb7⟩
  have hx7 : Boxed w7 (w.heap.size) 21 10 4 := Boxed.keep (by repeat (first | exact hx6 | apply Boxed.drew | apply Boxed.alloc)) hb7
  have gc0 := hx7.c0
  have gc1 := hx7.c1
  have gc2 := hx7.c2
  have gcl := hx7.lt
  have hz := hb7.size
  try simp only [World.size_alloc, World.size_drew] at hz
  go_wp2_with fail
  refine (log_ok 23 11 4 18 2 0 6 _ has_small (by omega) (by omega) (by omega) log2).mono ?_
  rintro e w8 ⟨rfl, hb8⟩
  have hx8 : Boxed w8 (w.heap.size) 21 10 4 := Boxed.keep (by repeat (first | exact hx7 | apply Boxed.drew | apply Boxed.alloc)) hb8
  have gc0 := hx8.c0
  have gc1 := hx8.c1
  have gc2 := hx8.c2
  have gcl := hx8.lt
  have hz := hb8.size
  try simp only [World.size_alloc, World.size_drew] at hz
  go_wp2_with fail
  refine (small_any _).mono ?_
  rintro e w9 ⟨rfl, hb9⟩
  have hx9 : Boxed w9 (w.heap.size) 21 10 4 := Boxed.keep (by repeat (first | exact hx8 | apply Boxed.drew | apply Boxed.alloc)) hb9
  have gc0 := hx9.c0
  have gc1 := hx9.c1
  have gc2 := hx9.c2
  have gcl := hx9.lt
  have hz := hb9.size
  try simp only [World.size_alloc, World.size_drew] at hz
  go_wp2_with fail
  refine (log_far 23 11 4 18 4097 _ has_small (by omega) (by omega)).mono ?_
  rintro e w10 ⟨rfl, hb10⟩
  have hx10 : Boxed w10 (w.heap.size) 21 10 4 := Boxed.keep (by repeat (first | exact hx9 | apply Boxed.drew | apply Boxed.alloc)) hb10
  have gc0 := hx10.c0
  have gc1 := hx10.c1
  have gc2 := hx10.c2
  have gcl := hx10.lt
  have hz := hb10.size
  try simp only [World.size_alloc, World.size_drew] at hz
  go_wp2_with fail
  refine (inv_ok 21 10 4 7 0 6 false _ has_odd (by omega) (by omega) (.inr ⟨rfl, rfl, by decide⟩) rfl).mono ?_
  rintro e w11 ⟨rfl, hb11⟩
  have hx11 : Boxed w11 (w.heap.size) 21 10 4 := Boxed.keep (by repeat (first | exact hx10 | apply Boxed.drew | apply Boxed.alloc)) hb11
  have gc0 := hx11.c0
  have gc1 := hx11.c1
  have gc2 := hx11.c2
  have gcl := hx11.lt
  have hz := hb11.size
  try simp only [World.size_alloc, World.size_drew] at hz
  go_wp2_with fail
  refine (small_any _).mono ?_
  rintro e w12 ⟨rfl, hb12⟩
  have hx12 : Boxed w12 (w.heap.size) 21 10 4 := Boxed.keep (by repeat (first | exact hx11 | apply Boxed.drew | apply Boxed.alloc)) hb12
  have gc0 := hx12.c0
  have gc1 := hx12.c1
  have gc2 := hx12.c2
  have gcl := hx12.lt
  have hz := hb12.size
  try simp only [World.size_alloc, World.size_drew] at hz
  go_wp2_with fail
  refine (inv_bad 23 11 4 23 2 _ (by omega) (by omega) (by omega) (chk_small _ _ (by decide)) (by omega)).mono ?_
  rintro e w13 ⟨rfl, hb13⟩
  have hx13 : Boxed w13 (w.heap.size) 21 10 4 := Boxed.keep (by repeat (first | exact hx12 | apply Boxed.drew | apply Boxed.alloc)) hb13
  have gc0 := hx13.c0
  have gc1 := hx13.c1
  have gc2 := hx13.c2
  have gcl := hx13.lt
  have hz := hb13.size
  try simp only [World.size_alloc, World.size_drew] at hz
  go_wp2_with fail
  refine (small_any _).mono ?_
  rintro e w14 ⟨rfl, hb14⟩
  have hx14 : Boxed w14 (w.heap.size) 21 10 4 := Boxed.keep (by repeat (first | exact hx13 | apply Boxed.drew | apply Boxed.alloc)) hb14
  have gc0 := hx14.c0
  have gc1 := hx14.c1
  have gc2 := hx14.c2
  have gcl := hx14.lt
  have hz := hb14.size
  try simp only [World.size_alloc, World.size_drew] at hz
  go_wp2_with fail
  refine (invExp_ok 23 11 4 0 0 6 false _ has_small (by omega) (by omega) (.inr ⟨rfl, rfl, by decide⟩) rfl).mono ?_
  rintro e w15 ⟨rfl, hb15⟩
  have hx15 : Boxed w15 (w.heap.size) 21 10 4 := Boxed.keep (by repeat (first | exact hx14 | apply Boxed.drew | apply Boxed.alloc)) hb15
  have gc0 := hx15.c0
  have gc1 := hx15.c1
  have gc2 := hx15.c2
  have gcl := hx15.lt
  have hz := hb15.size
  try simp only [World.size_alloc, World.size_drew] at hz
  go_wp2_with fail
  refine (isPrime_great 2147483648 _ (by omega)).mono ?_
  rintro e w0 ⟨rfl, rfl⟩
  go_wp2_with fail
  refine (isPrime_small 2147483647 true _ (by omega) (by omega) (by simp [prM])).mono ?_
  rintro e w0 ⟨rfl, rfl⟩
  go_wp2_with fail
  refine (small_any _).mono ?_
  rintro e w16 ⟨rfl, hb16⟩
  have hx16 : Boxed w16 (w.heap.size) 21 10 4 := Boxed.keep (by repeat (first | exact hx15 | apply Boxed.drew | apply Boxed.alloc)) hb16
  have gc0 := hx16.c0
  have gc1 := hx16.c1
  have gc2 := hx16.c2
  have gcl := hx16.lt
  have hz := hb16.size
  try simp only [World.size_alloc, World.size_drew] at hz
  go_wp2_with fail
  refine (pow_ok 23 11 4 0 0 1 _ has_small (by omega) (by omega) (U64.of_lt (by omega) (by omega)) (powm_nat 0 0 23 1 (by decide))).mono ?_
  rintro e w17 ⟨rfl, hb17⟩
  have hx17 : Boxed w17 (w.heap.size) 21 10 4 := Boxed.keep (by repeat (first | exact hx16 | apply Boxed.drew | apply Boxed.alloc)) hb17
  have gc0 := hx17.c0
  have gc1 := hx17.c1
  have gc2 := hx17.c2
  have gcl := hx17.lt
  have hz := hb17.size
  try simp only [World.size_alloc, World.size_drew] at hz
  go_wp2_with fail
  refine (small_any _).mono ?_
  rintro e w18 ⟨rfl, hb18⟩
  have hx18 : Boxed w18 (w.heap.size) 21 10 4 := Boxed.keep (by repeat (first | exact hx17 | apply Boxed.drew | apply Boxed.alloc)) hb18
  have gc0 := hx18.c0
  have gc1 := hx18.c1
  have gc2 := hx18.c2
  have gcl := hx18.lt
  have hz := hb18.size
  try simp only [World.size_alloc, World.size_drew] at hz
  go_wp2_with fail
  refine (addExp_bad 23 11 4 11 0 2 _ (by omega) (by omega) (by omega) (chk_small _ _ (by decide)) (by omega)).mono ?_
  rintro e w19 ⟨rfl, hb19⟩
  have hx19 : Boxed w19 (w.heap.size) 21 10 4 := Boxed.keep (by repeat (first | exact hx18 | apply Boxed.drew | apply Boxed.alloc)) hb19
  have gc0 := hx19.c0
  have gc1 := hx19.c1
  have gc2 := hx19.c2
  have gcl := hx19.lt
  have hz := hb19.size
  try simp only [World.size_alloc, World.size_drew] at hz
  go_wp2_with fail
  refine (mul_bad 23 11 23 1 1 300 _ (by omega) (by omega) (by omega) (by rw [checkS, if_neg not_has_23]) (by omega)).mono ?_
  rintro e w20 ⟨rfl, hb20⟩
  have hx20 : Boxed w20 (w.heap.size) 21 10 4 := Boxed.keep (by repeat (first | exact hx19 | apply Boxed.drew | apply Boxed.alloc)) hb20
  have gc0 := hx20.c0
  have gc1 := hx20.c1
  have gc2 := hx20.c2
  have gcl := hx20.lt
  have hz := hb20.size
  try simp only [World.size_alloc, World.size_drew] at hz
  go_wp2_with fail
  refine (small_any _).mono ?_
  rintro e w21 ⟨rfl, hb21⟩
  have hx21 : Boxed w21 (w.heap.size) 21 10 4 := Boxed.keep (by repeat (first | exact hx20 | apply Boxed.drew | apply Boxed.alloc)) hb21
  have gc0 := hx21.c0
  have gc1 := hx21.c1
  have gc2 := hx21.c2
  have gcl := hx21.lt
  have hz := hb21.size
  try simp only [World.size_alloc, World.size_drew] at hz
  go_wp2_with fail
  refine (subExp_ok 23 11 4 3 7 7 _ has_small (by omega) (by omega) (by omega) (by omega) (by decide)).mono ?_
  rintro e w22 ⟨rfl, hb22⟩
  have hx22 : Boxed w22 (w.heap.size) 21 10 4 := Boxed.keep (by repeat (first | exact hx21 | apply Boxed.drew | apply Boxed.alloc)) hb22
  have gc0 := hx22.c0
  have gc1 := hx22.c1
  have gc2 := hx22.c2
  have gcl := hx22.lt
  have hz := hb22.size
  try simp only [World.size_alloc, World.size_drew] at hz
  go_wp2_with fail
  refine (form_yes 21 10 4 _ has_odd).mono ?_
  rintro e w23 ⟨rfl, hb23⟩
  have hx23 : Boxed w23 (w.heap.size) 21 10 4 := Boxed.keep (by repeat (first | exact hx22 | apply Boxed.drew | apply Boxed.alloc)) hb23
  have gc0 := hx23.c0
  have gc1 := hx23.c1
  have gc2 := hx23.c2
  have gcl := hx23.lt
  have hz := hb23.size
  try simp only [World.size_alloc, World.size_drew] at hz
  go_wp2_with fail
  refine (gcheck_any 21 10 4 300 _ (by omega) (by omega) (by omega) (.inr ⟨not_valid_odd, rfl⟩)).mono ?_
  rintro e w24 ⟨rfl, hb24⟩
  have hx24 : Boxed w24 (w.heap.size) 21 10 4 := Boxed.keep (by repeat (first | exact hx23 | apply Boxed.drew | apply Boxed.alloc)) hb24
  have gc0 := hx24.c0
  have gc1 := hx24.c1
  have gc2 := hx24.c2
  have gcl := hx24.lt
  have hz := hb24.size
  try simp only [World.size_alloc, World.size_drew] at hz
  go_wp2_with fail
  refine (default_any _).mono ?_
  rintro e w25 ⟨rfl, hb25⟩
  have hx25 : Boxed w25 (w.heap.size) 21 10 4 := Boxed.keep (by repeat (first | exact hx24 | apply Boxed.drew | apply Boxed.alloc)) hb25
  have gc0 := hx25.c0
  have gc1 := hx25.c1
  have gc2 := hx25.c2
  have gcl := hx25.lt
  have hz := hb25.size
  try simp only [World.size_alloc, World.size_drew] at hz
  go_wp2_with fail
  refine (gcheck_any 1000000007 500000003 4 0 _ (by omega) (by omega) (by omega) (.inl ⟨valid_default, rfl⟩)).mono ?_
  rintro e w26 ⟨rfl, hb26⟩
  have hx26 : Boxed w26 (w.heap.size) 21 10 4 := Boxed.keep (by repeat (first | exact hx25 | apply Boxed.drew | apply Boxed.alloc)) hb26
  have gc0 := hx26.c0
  have gc1 := hx26.c1
  have gc2 := hx26.c2
  have gcl := hx26.lt
  have hz := hb26.size
  try simp only [World.size_alloc, World.size_drew] at hz
  go_wp2_with fail
  refine (gcheck_any 23 11 5 300 _ (by omega) (by omega) (by omega) (.inr ⟨not_valid_five, rfl⟩)).mono ?_
  rintro e w27 ⟨rfl, hb27⟩
  have hx27 : Boxed w27 (w.heap.size) 21 10 4 := Boxed.keep (by repeat (first | exact hx26 | apply Boxed.drew | apply Boxed.alloc)) hb27
  have gc0 := hx27.c0
  have gc1 := hx27.c1
  have gc2 := hx27.c2
  have gcl := hx27.lt
  have hz := hb27.size
  try simp only [World.size_alloc, World.size_drew] at hz
  go_wp2_with fail
  refine (form_no 23 12 4 _ (by omega) (by omega) (by omega) not_has_twelve).mono ?_
  rintro e w28 ⟨rfl, hb28⟩
  have hx28 : Boxed w28 (w.heap.size) 21 10 4 := Boxed.keep (by repeat (first | exact hx27 | apply Boxed.drew | apply Boxed.alloc)) hb28
  have gc0 := hx28.c0
  have gc1 := hx28.c1
  have gc2 := hx28.c2
  have gcl := hx28.lt
  have hz := hb28.size
  try simp only [World.size_alloc, World.size_drew] at hz
  go_wp2_with fail
  refine (alive30 _).mono ?_
  rintro e w29 ⟨rfl, hb29⟩
  have hx29 : Boxed w29 (w.heap.size) 21 10 4 := Boxed.keep (by repeat (first | exact hx28 | apply Boxed.drew | apply Boxed.alloc)) hb29
  have gc0 := hx29.c0
  have gc1 := hx29.c1
  have gc2 := hx29.c2
  have gcl := hx29.lt
  have hz := hb29.size
  try simp only [World.size_alloc, World.size_drew] at hz
  go_wp2_with fail
  refine (is_yes 1 _).mono ?_
  rintro e w0 ⟨rfl, rfl⟩
  go_wp2_with fail
  refine (is_yes 7 _).mono ?_
  rintro e w0 ⟨rfl, rfl⟩
  go_wp2_with fail
  go_ret
  exact ⟨rfl, (by repeat (first | exact Below.refl _ _ | apply Below.drew | (refine Below.alloc ?_ (by first | omega | (simp <;> omega)) _) | (refine Below.trans ?_ (hb29.mono (by first | omega | (simp <;> omega)))) | (refine Below.trans ?_ (hb28.mono (by first | omega | (simp <;> omega)))) | (refine Below.trans ?_ (hb27.mono (by first | omega | (simp <;> omega)))) | (refine Below.trans ?_ (hb26.mono (by first | omega | (simp <;> omega)))) | (refine Below.trans ?_ (hb25.mono (by first | omega | (simp <;> omega)))) | (refine Below.trans ?_ (hb24.mono (by first | omega | (simp <;> omega)))) | (refine Below.trans ?_ (hb23.mono (by first | omega | (simp <;> omega)))) | (refine Below.trans ?_ (hb22.mono (by first | omega | (simp <;> omega)))) | (refine Below.trans ?_ (hb21.mono (by first | omega | (simp <;> omega)))) | (refine Below.trans ?_ (hb20.mono (by first | omega | (simp <;> omega)))) | (refine Below.trans ?_ (hb19.mono (by first | omega | (simp <;> omega)))) | (refine Below.trans ?_ (hb18.mono (by first | omega | (simp <;> omega)))) | (refine Below.trans ?_ (hb17.mono (by first | omega | (simp <;> omega)))) | (refine Below.trans ?_ (hb16.mono (by first | omega | (simp <;> omega)))) | (refine Below.trans ?_ (hb15.mono (by first | omega | (simp <;> omega)))) | (refine Below.trans ?_ (hb14.mono (by first | omega | (simp <;> omega)))) | (refine Below.trans ?_ (hb13.mono (by first | omega | (simp <;> omega)))) | (refine Below.trans ?_ (hb12.mono (by first | omega | (simp <;> omega)))) | (refine Below.trans ?_ (hb11.mono (by first | omega | (simp <;> omega)))) | (refine Below.trans ?_ (hb10.mono (by first | omega | (simp <;> omega)))) | (refine Below.trans ?_ (hb9.mono (by first | omega | (simp <;> omega)))) | (refine Below.trans ?_ (hb8.mono (by first | omega | (simp <;> omega)))) | (refine Below.trans ?_ (hb7.mono (by first | omega | (simp <;> omega)))) | (refine Below.trans ?_ (hb6.mono (by first | omega | (simp <;> omega)))) | (refine Below.trans ?_ (hb5.mono (by first | omega | (simp <;> omega)))) | (refine Below.trans ?_ (hb4.mono (by first | omega | (simp <;> omega)))) | (refine Below.trans ?_ (hb3.mono (by first | omega | (simp <;> omega)))) | (refine Below.trans ?_ (hb2.mono (by first | omega | (simp <;> omega)))) | (refine Below.trans ?_ (hb1.mono (by first | omega | (simp <;> omega))))))⟩


set_option maxRecDepth 100000 in
theorem lifted (os : Os) (started : os.Started) (H : Type) (enc : TypeId × Value → H) :
    ReturnsInHanded {} Try.checked os 13 .any (Rows.groupNamesSpec.pre6 enc Try.prog Try.f13 Rows.groupNamesRow.domain false) (Rows.groupNamesSpec.post enc Try.prog Try.f13 false true false false) := by
  refine returnsInHanded_of_change (C := Try.checked) own started (by kernel_rfl) Try.func13
    (ChangeSpec.witness6 (enc := enc) (C := Try.checked) false ⟨#[], #[], []⟩ 8 (by kernel_rfl) (by kernel_rfl) (by kernel_rfl) (by kernel_rfl)) ?_
  intro W base args ds gs before hval0 hW _ _
  have hval : ∀ (j : Nat) t v, Try.f13.params[j]? = some t → args[j]? = some v → Value.okWide Try.prog W .any base t v := hval0
  have hW' := hW
  obtain ⟨p, q, hA0, hV, rfl, hfz, hnd⟩ := hW
  have hA : DataW.TrodAll enc Try.prog W 0 (fun _ => true) true Try.f13.params.toList args.toList ds p := hA0
  rw [Try.params13] at hA hval
  have hK := hA
  obtain ⟨hargs, rfl, rfl⟩ := trodAll_nil hA
  obtain rfl : args = #[] := by cases args; simp_all
  obtain ⟨rfl, rfl⟩ := trodVars_none hV
  clear hA0 hval0
  refine (walk  W ).mono fun e W' ⟨he, bel⟩ => ?_
  subst he
  exact ⟨_, rfl, _, _, _, [], _, [], hW', trodAll_mk1 (shut_bool Try.underlying4 _), trodAll_stays laidOut (by kernel_rfl) hK bel, rfl, bel.frame _, fun h => by cases h⟩

theorem over : Rows.groupNamesRow.holds Try.pinned (OpenSpec.ofChange Rows.groupNamesSpec) :=
  OpenClaim.holds_of_wide 13 Try.f13 rfl rfl rfl rfl rfl rfl rfl ⟨rfl, rfl, rfl, rfl, rfl⟩ rfl rfl rfl rfl rfl (by kernel_rfl) Try.func13 (by kernel_rfl)
    (of_decide_eq_true (by kernel_rfl)) (by unfold Func.isWrapper; first | (rw [if_pos (by decide +kernel)]; kernel_rfl) | (rw [if_neg (by decide +kernel)]; exact ⟨rfl, rfl⟩))
    (fun os started H enc _ => lifted os started H enc)

theorem proved : Rows.GroupNamesSaid := over
#print axioms proved
end Go.Proofs.Ytjdfjgphjdcnmaa.lawNames
