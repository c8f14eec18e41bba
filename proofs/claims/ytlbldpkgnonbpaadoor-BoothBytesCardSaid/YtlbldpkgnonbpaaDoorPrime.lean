/- Primes by trial division that the kernel reckons. -/
import Derived.Test.YtlbldpkgnonbpaaDoorNum
namespace Go.Proofs.YtlbldpkgnonbpaaDoor.Num

/-- None of the 2^k numbers from d on divides n. -/
def noneB (n : Nat) : Nat → Nat → Bool
  | 0, d => n % d != 0
  | k + 1, d => noneB n k d && noneB n k (d + 2 ^ k)
theorem noneB_spec (n : Nat) : ∀ (k d : Nat), noneB n k d = true → ∀ e, d ≤ e → e < d + 2 ^ k → n % e ≠ 0
  | 0, d, h, e, h1, h2 => by
      obtain rfl : e = d := by simp at h2; omega
      simpa [noneB] using h
  | k + 1, d, h, e, h1, h2 => by
      simp only [noneB, Bool.and_eq_true] at h
      rw [Nat.pow_succ] at h2
      by_cases he : e < d + 2 ^ k
      · exact noneB_spec n k d h.1 e h1 he
      · exact noneB_spec n k (d + 2 ^ k) h.2 e (by omega) (by omega)
theorem pr_of_noneB {n : Nat} (k : Nat) (h2 : 2 ≤ n) (h : noneB n k 2 = true) (hk : n < (2 + 2 ^ k) * (2 + 2 ^ k)) : Pr (n : Int) := by
  refine ⟨by omega, fun d d2 dd hd => ?_⟩
  obtain ⟨e, rfl⟩ := Int.eq_ofNat_of_zero_le (show 0 ≤ d by omega)
  have hlt : e < 2 + 2 ^ k := by
    rcases Nat.lt_or_ge e (2 + 2 ^ k) with h' | h'
    · exact h'
    · have h1 : (2 + 2 ^ k) * (2 + 2 ^ k) ≤ e * e := Nat.mul_le_mul h' h'
      have h3 : ((e * e : Nat) : Int) ≤ (n : Int) := by rw [Int.natCast_mul]; exact dd
      omega
  have hz := noneB_spec n k 2 h e (by omega) hlt
  have := Int.emod_eq_zero_of_dvd hd
  rw [← Int.natCast_emod] at this
  omega
theorem emod_le_self {x q : Int} (h : 0 ≤ x) (hq : 0 < q) : x % q ≤ x := by
  have h1 := Int.mul_ediv_add_emod x q
  have h2 : 0 ≤ q * (x / q) := Int.mul_nonneg (by omega) (Int.ediv_nonneg h (by omega))
  omega
theorem pr11 : Pr 11 := pr_of_noneB (n := 11) 1 (by decide) (by decide +kernel) (by decide)
theorem pr23 : Pr 23 := pr_of_noneB (n := 23) 2 (by decide) (by decide +kernel) (by decide)
theorem prP : Pr 1000000007 := pr_of_noneB (n := 1000000007) 15 (by decide) (by decide +kernel) (by decide)
theorem prQ : Pr 500000003 := pr_of_noneB (n := 500000003) 15 (by decide) (by decide +kernel) (by decide)
theorem prM : Pr 2147483647 := pr_of_noneB (n := 2147483647) 16 (by decide) (by decide +kernel) (by decide)
theorem not_pr21 : ¬ Pr 21 := fun h => h.2 3 (by decide) (by decide) (by decide)
end Go.Proofs.YtlbldpkgnonbpaaDoor.Num
