/- The group functions at every input: results and errors in one. -/
import Derived.Test.YtlbldpkgnonbpaaDoorFromD
namespace Go.Proofs.YtlbldpkgnonbpaaDoor
open Go.RowKit Num

theorem checkS_zero {P Q G L : Int} {xs : List Int} (h : checkS P Q G L xs = 0) : Has P Q G ∧ ∀ x, x ∈ xs → x < L := by
  unfold checkS at h
  by_cases hH : Has P Q G
  · rw [if_pos hH] at h
    refine ⟨hH, ?_⟩
    by_cases ho : okAll L xs = true
    · intro x hx
      have := List.all_eq_true.1 ho x hx
      simpa using this
    · rw [if_neg ho] at h; omega
  · rw [if_neg hH] at h; omega

/-- The result of a function that first checks: the error of the check, or a value. -/
def RetS (chk v0 v e : Int) : Prop := (chk = 0 ∧ v = v0 ∧ e = 0) ∨ (chk ≠ 0 ∧ v = 0 ∧ e = chk)
theorem RetS.exists (chk v0 : Int) : ∃ v e, RetS chk v0 v e := by
  by_cases h : chk = 0
  · exact ⟨v0, 0, .inl ⟨h, rfl, rfl⟩⟩
  · exact ⟨0, chk, .inr ⟨h, rfl, rfl⟩⟩
/-- The result of an inversion that first checks. -/
def RetI (chk m a v e : Int) : Prop := (chk = 0 ∧ ∃ ok, InvS m a ok v ∧ e = if ok then 0 else 6) ∨ (chk ≠ 0 ∧ v = 0 ∧ e = chk)
theorem RetI.exists (chk m a : Int) (hm : 0 < m) : ∃ v e, RetI chk m a v e := by
  by_cases h : chk = 0
  · obtain ⟨ok, r, hr⟩ := InvS.exists m a hm
    exact ⟨r, if ok then 0 else 6, .inl ⟨h, ok, hr, rfl⟩⟩
  · exact ⟨0, chk, .inr ⟨h, rfl, rfl⟩⟩
/-- The result of a test that first checks. -/
def RetB (chk : Int) (p : Prop) (r : Bool) (e : Int) : Prop := (chk = 0 ∧ (r = true ↔ p) ∧ e = 0) ∨ (chk ≠ 0 ∧ r = false ∧ e = chk)
theorem RetB.exists (chk : Int) (p : Prop) : ∃ r e, RetB chk p r e := by
  by_cases h : chk = 0
  · by_cases hp : p
    · exact ⟨true, 0, .inl ⟨h, by simp [hp], rfl⟩⟩
    · exact ⟨false, 0, .inl ⟨h, by simp [hp], rfl⟩⟩
  · exact ⟨false, chk, .inr ⟨h, rfl, rfl⟩⟩
/-- The result of Log: the check's error, the limit's, or the logarithm. -/
def RetL (P Q G a most n e : Int) : Prop :=
  (checkS P Q G P [a] = 0 ∧ ((0 ≤ most ∧ most ≤ 4096 ∧ LogS P G a most n e) ∨ ((most < 0 ∨ 4096 < most) ∧ n = 0 ∧ e = 2))) ∨ (checkS P Q G P [a] ≠ 0 ∧ n = 0 ∧ e = checkS P Q G P [a])
theorem RetL.exists (P Q G a most : Int) : ∃ n e, RetL P Q G a most n e := by
  by_cases h : checkS P Q G P [a] = 0
  · by_cases hm : 0 ≤ most ∧ most ≤ 4096
    · obtain ⟨n, e, hl⟩ := LogS.exists P G a most
      exact ⟨n, e, .inl ⟨h, .inl ⟨hm.1, hm.2, hl⟩⟩⟩
    · exact ⟨0, 2, .inl ⟨h, .inr ⟨by omega, rfl, rfl⟩⟩⟩
  · exact ⟨0, _, .inr ⟨h, rfl, rfl⟩⟩

section
variable {P Q G : Int} (hP : 0 ≤ P) (hQ : 0 ≤ Q) (hG : 0 ≤ G)
include hP hQ hG
theorem pow_gen {a x v c : Int} (w : World) (a0 : 0 ≤ a) (hx : U64 x) (hr : RetS (checkS P Q G P [a]) (powm a x P) v c) :
    Calls Tryd.prog 72 #[.agg #[.int .u64 P, .int .u64 Q, .int .u64 G], .int .u64 a, .int .u64 x] w fun e w' => e = .returned (.tuple #[.int .u64 v, .int .i64 c]) ∧ Below w.heap.size w w' := by
  rcases hr with ⟨h, rfl, rfl⟩ | ⟨h, rfl, rfl⟩
  · have h' := checkS_zero h
    exact pow_ok P Q G a x _ w h'.1 a0 (h'.2 a (by simp)) hx rfl
  · exact pow_bad P Q G a x _ w hP hQ hG rfl h
theorem mul_gen {a b v c : Int} (w : World) (a0 : 0 ≤ a) (b0 : 0 ≤ b) (hr : RetS (checkS P Q G P [a, b]) (a * b % P) v c) :
    Calls Tryd.prog 73 #[.agg #[.int .u64 P, .int .u64 Q, .int .u64 G], .int .u64 a, .int .u64 b] w fun e w' => e = .returned (.tuple #[.int .u64 v, .int .i64 c]) ∧ Below w.heap.size w w' := by
  rcases hr with ⟨h, rfl, rfl⟩ | ⟨h, rfl, rfl⟩
  · have h' := checkS_zero h
    exact mul_ok P Q G a b _ w h'.1 a0 (h'.2 a (by simp)) b0 (h'.2 b (by simp)) rfl
  · exact mul_bad P Q G a b _ w hP hQ hG rfl h
theorem member_gen {a c : Int} {r : Bool} (w : World) (a0 : 0 ≤ a) (hr : RetB (checkS P Q G P [a]) (Mem P Q a) r c) :
    Calls Tryd.prog 53 #[.agg #[.int .u64 P, .int .u64 Q, .int .u64 G], .int .u64 a] w fun e w' => e = .returned (.tuple #[.bool r, .int .i64 c]) ∧ Below w.heap.size w w' := by
  rcases hr with ⟨h, h1, rfl⟩ | ⟨h, rfl, rfl⟩
  · have h' := checkS_zero h
    exact member_ok P Q G a r w h'.1 a0 (h'.2 a (by simp)) h1
  · exact member_bad P Q G a _ w hP hQ hG rfl h
theorem addExp_gen {x y v c : Int} (w : World) (x0 : 0 ≤ x) (y0 : 0 ≤ y) (hr : RetS (checkS P Q G Q [x, y]) ((x + y) % Q) v c) :
    Calls Tryd.prog 52 #[.agg #[.int .u64 P, .int .u64 Q, .int .u64 G], .int .u64 x, .int .u64 y] w fun e w' => e = .returned (.tuple #[.int .u64 v, .int .i64 c]) ∧ Below w.heap.size w w' := by
  rcases hr with ⟨h, rfl, rfl⟩ | ⟨h, rfl, rfl⟩
  · have h' := checkS_zero h
    exact addExp_ok P Q G x y _ w h'.1 x0 (h'.2 x (by simp)) y0 (h'.2 y (by simp)) rfl
  · exact addExp_bad P Q G x y _ w hP hQ hG rfl h
theorem subExp_gen {x y v c : Int} (w : World) (x0 : 0 ≤ x) (y0 : 0 ≤ y) (hr : RetS (checkS P Q G Q [x, y]) ((x - y) % Q) v c) :
    Calls Tryd.prog 80 #[.agg #[.int .u64 P, .int .u64 Q, .int .u64 G], .int .u64 x, .int .u64 y] w fun e w' => e = .returned (.tuple #[.int .u64 v, .int .i64 c]) ∧ Below w.heap.size w w' := by
  rcases hr with ⟨h, rfl, rfl⟩ | ⟨h, rfl, rfl⟩
  · have h' := checkS_zero h
    exact subExp_ok P Q G x y _ w h'.1 x0 (h'.2 x (by simp)) y0 (h'.2 y (by simp)) rfl
  · exact subExp_bad P Q G x y _ w hP hQ hG rfl h
theorem mulExp_gen {x y v c : Int} (w : World) (x0 : 0 ≤ x) (y0 : 0 ≤ y) (hr : RetS (checkS P Q G Q [x, y]) (x * y % Q) v c) :
    Calls Tryd.prog 102 #[.agg #[.int .u64 P, .int .u64 Q, .int .u64 G], .int .u64 x, .int .u64 y] w fun e w' => e = .returned (.tuple #[.int .u64 v, .int .i64 c]) ∧ Below w.heap.size w w' := by
  rcases hr with ⟨h, rfl, rfl⟩ | ⟨h, rfl, rfl⟩
  · have h' := checkS_zero h
    exact mulExp_ok P Q G x y _ w h'.1 x0 (h'.2 x (by simp)) y0 (h'.2 y (by simp)) rfl
  · exact mulExp_bad P Q G x y _ w hP hQ hG rfl h
theorem fromDigest_gen {v c : Int} {bs : List Int} (w : World) (hlen : 8 ≤ bs.length) (hB : Bytes bs) (hr : RetS (checkS P Q G 0 []) (beN (bs.take 8) % Q) v c) :
    Calls Tryd.prog 112 #[.agg #[.int .u64 P, .int .u64 Q, .int .u64 G], .agg (byteV bs)] w fun e w' => e = .returned (.tuple #[.int .u64 v, .int .i64 c]) ∧ Below w.heap.size w w' := by
  rcases hr with ⟨h, rfl, rfl⟩ | ⟨h, rfl, rfl⟩
  · exact fromDigest_ok P Q G _ bs w (checkS_zero h).1 hlen hB rfl
  · have hn : ¬ Has P Q G := fun hH => h (by rw [checkS, if_pos hH]; simp [okAll])
    have := fromDigest_no P Q G bs w hP hQ hG hn
    rwa [checkS, if_neg hn]
end
end Go.Proofs.YtlbldpkgnonbpaaDoor
