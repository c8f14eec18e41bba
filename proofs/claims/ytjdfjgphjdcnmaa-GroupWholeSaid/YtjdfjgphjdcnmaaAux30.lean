/- The helpers of the statements of chapter 30: small, is, member, alive. -/
import Derived.Test.YtjdfjgphjdcnmaaGen
import Derived.Test.YtjdfjgphjdcnmaaBoxed
import Derived.Test.YtjdfjgphjdcnmaaPrime
namespace Go.Proofs.Ytjdfjgphjdcnmaa
open Go.RowKit Num
set_option linter.unusedSimpArgs false
set_option linter.unusedVariables false

theorem has_small : Has 23 11 4 := by unfold Has; omega
theorem powm_nat (a x m r : Nat) (h : a ^ x % m = r) : powm (a : Int) (x : Int) (m : Int) = (r : Int) := by
  subst h
  simp [powm, ← Int.natCast_pow, ← Int.natCast_emod]
theorem valid_small : Valid 23 11 4 := ⟨has_small, pr23, pr11, powm_nat 4 11 23 1 (by decide)⟩
theorem invS_of {m a r : Int} (h0 : 0 ≤ r) (h1 : r < m) (h2 : a * r % m = 1 % m) : InvS m a true r := .inl ⟨rfl, h0, h1, cg_of_emod h2⟩

set_option maxHeartbeats 400000 in
theorem small_any (w : World) :
    Calls Try.prog 45 #[] w fun e w' => e = .returned (.agg #[.int .u64 23, .int .u64 11, .int .u64 4]) ∧ Below w.heap.size w w' := by
  go_enter Try.func45, Try.ntmps45
  go_wp2
  exact bodyPost_ret (v := .agg #[.int .u64 23, .int .u64 11, .int .u64 4]) (by simp [results, Try.results45, go_sem]) rfl ⟨rfl, (Below.refl _ _).alloc (Nat.le_refl _) _⟩

set_option maxHeartbeats 400000 in
theorem is_yes (n : Int) (w : World) :
    Calls Try.prog 44 #[.int .u64 n, .int .i64 0, .int .u64 n] w fun e w' => e = .returned (.bool true) ∧ w = w' := by
  go_enter Try.func44, Try.ntmps44
  go_wp2
  go_ret
  exact ⟨rfl, rfl⟩

set_option maxHeartbeats 800000 in
theorem member_is {P Q G a : Int} {r : Bool} (w : World) (hP : 0 ≤ P) (hQ : 0 ≤ Q) (hG : 0 ≤ G) (a0 : 0 ≤ a) (hr : r = true ↔ Has P Q G ∧ Mem P Q a) :
    Calls Try.prog 43 #[.agg #[.int .u64 P, .int .u64 Q, .int .u64 G], .int .u64 a] w fun e w' => e = .returned (.bool r) ∧ Below w.heap.size w w' := by
  by_cases hc : checkS P Q G P [a] = 0
  · have HM := Lib.hid (show RetB (checkS P Q G P [a]) (Mem P Q a) r 0 from .inl ⟨hc, by rw [hr]; simp [(checkS_zero hc).1], rfl⟩)
    clear hr hc
    go_enter Try.func43, Try.ntmps43
    go_wp2_with fail
    refine (member_gen hP hQ hG _ a0 HM.out).mono ?_
    rintro e w1 ⟨rfl, hb1⟩
    go_wp2_with fail
    go_ret
    exact ⟨rfl, ((Below.refl _ _).alloc (Nat.le_refl _) _).trans (hb1.mono (by simp))⟩
  · have HZ := Lib.hid (show false = r by
      rw [Bool.eq_iff_iff, hr]
      simp only [Bool.false_eq_true, false_iff]
      intro h
      apply hc
      rw [checkS, if_pos h.1]
      simp [okAll, h.2.2.1])
    obtain ⟨c, hcc⟩ : ∃ c, checkS P Q G P [a] = c := ⟨_, rfl⟩
    have HM := Lib.hid (show RetB (checkS P Q G P [a]) (Mem P Q a) false c from .inr ⟨hc, rfl, hcc.symm⟩)
    have hn : (c == 0) = false := by rw [← hcc]; simpa using hc
    clear hr hc hcc
    go_enter Try.func43, Try.ntmps43
    go_wp2_with fail
    refine (member_gen hP hQ hG _ a0 HM.out).mono ?_
    rintro e w1 ⟨rfl, hb1⟩
    go_wp2_with fail
    go_ret
    exact ⟨ret_bool HZ.out, ((Below.refl _ _).alloc (Nat.le_refl _) _).trans (hb1.mono (by simp))⟩

set_option maxRecDepth 100000 in
set_option maxHeartbeats 1600000 in
theorem alive30 (w : World) :
    Calls Try.prog 42 #[] w fun e w' => e = .returned (.bool true) ∧ Below w.heap.size w w' := by
  go_enter Try.func42, Try.ntmps42
  go_wp2_with fail
  refine (small_any _).mono ?_
  rintro e w1 ⟨rfl, hb1⟩
  have hz1 := hb1.size
  go_wp2_with fail
  refine (pow_ok 23 11 4 4 3 18 _ has_small (by omega) (by omega) (U64.of_lt (by omega) (by omega)) (powm_nat 4 3 23 18 (by decide))).mono ?_
  rintro e w2 ⟨rfl, hb2⟩
  have hz2 := hb2.size
  go_wp2_with fail
  refine (small_any _).mono ?_
  rintro e w3 ⟨rfl, hb3⟩
  have hz3 := hb3.size
  go_wp2_with fail
  refine (inv_ok 23 11 4 5 14 0 true _ has_small (by omega) (by omega) (invS_of (by omega) (by omega) (by decide)) rfl).mono ?_
  rintro e w4 ⟨rfl, hb4⟩
  have hz4 := hb4.size
  go_wp2_with fail
  refine (small_any _).mono ?_
  rintro e w5 ⟨rfl, hb5⟩
  have hz5 := hb5.size
  go_wp2_with fail
  refine (invExp_ok 23 11 4 7 8 0 true _ has_small (by omega) (by omega) (invS_of (by omega) (by omega) (by decide)) rfl).mono ?_
  rintro e w6 ⟨rfl, hb6⟩
  have hz6 := hb6.size
  go_wp2_with fail
  refine (small_any _).mono ?_
  rintro e w7 ⟨rfl, hb7⟩
  have hz7 := hb7.size
  go_wp2_with fail
  refine (gcheck_any 23 11 4 0 _ (by omega) (by omega) (by omega) (.inl ⟨valid_small, rfl⟩)).mono ?_
  rintro e w8 ⟨rfl, hb8⟩
  have hz8 := hb8.size
  go_wp2_with fail
  refine (is_yes 18 _).mono ?_
  rintro e w0 ⟨rfl, rfl⟩
  go_wp2_with fail
  refine (is_yes 14 _).mono ?_
  rintro e w0 ⟨rfl, rfl⟩
  go_wp2_with fail
  refine (is_yes 8 _).mono ?_
  rintro e w0 ⟨rfl, rfl⟩
  go_wp2_with fail
  go_ret
  exact ⟨rfl, (by repeat (first | exact Below.refl _ _ | apply Below.drew | (refine Below.alloc ?_ (by first | omega | (simp <;> omega)) _) | (refine Below.trans ?_ (hb8.mono (by first | omega | (simp <;> omega)))) | (refine Below.trans ?_ (hb7.mono (by first | omega | (simp <;> omega)))) | (refine Below.trans ?_ (hb6.mono (by first | omega | (simp <;> omega)))) | (refine Below.trans ?_ (hb5.mono (by first | omega | (simp <;> omega)))) | (refine Below.trans ?_ (hb4.mono (by first | omega | (simp <;> omega)))) | (refine Below.trans ?_ (hb3.mono (by first | omega | (simp <;> omega)))) | (refine Below.trans ?_ (hb2.mono (by first | omega | (simp <;> omega)))) | (refine Below.trans ?_ (hb1.mono (by first | omega | (simp <;> omega))))))⟩

end Go.Proofs.Ytjdfjgphjdcnmaa
