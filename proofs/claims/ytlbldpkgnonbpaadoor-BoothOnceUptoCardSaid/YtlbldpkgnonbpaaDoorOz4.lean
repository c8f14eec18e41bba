/- The numbers drawn from a seed, reckoned. -/
import Derived.Test.YtlbldpkgnonbpaaDoorOz3
import Derived.Test.YtlbldpkgnonbpaaDoorOzN
set_option linter.unusedSimpArgs false
set_option linter.unusedVariables false
set_option maxRecDepth 100000
namespace Go.Proofs.YtlbldpkgnonbpaaDoor.Fast
open Go Go.Proofs.YtlbldpkgnonbpaaDoor Go.Proofs.YtlbldpkgnonbpaaDoor.Sha
set_option maxRecDepth 100000
def be4N (x : Nat) : List Nat := (List.range 4).map fun i => x / 2 ^ (24 - 8 * i) % 256
def tryN (seed : List Nat) (i k : Nat) : Nat := ((shaN (seed ++ be4N i ++ be4N k)).take 8).foldl (fun n b => n * 256 + b) 0
theorem be4_nat (x : Nat) : be4 (x : Int) = (be4N x).map (Nat.cast : Nat → Int) := by
 unfold be4 be4N
 rw [List.map_map]
 refine List.map_congr_left fun i _ => ?_
 simp
theorem beN_nat : ∀ (l : List Nat) (a : Nat), (l.map (Nat.cast : Nat → Int)).foldl (fun n b => n * 256 + b) (a : Int) = ((l.foldl (fun n b => n * 256 + b) a : Nat) : Int)
  | [], _ => rfl
  | x :: l, a => by
   rw [List.map_cons, List.foldl_cons, List.foldl_cons, ← beN_nat l]
   congr 1
theorem be4N_lt (x : Nat) : ∀ b, b ∈ be4N x → b < 256 := by
 intro b hb
 obtain ⟨i, _, rfl⟩ := List.mem_map.1 hb
 exact Nat.mod_lt _ (by decide)
theorem try_nat {seed : List Nat} (hs : ∀ x, x ∈ seed → x < 256) (i k : Nat) : tryS (seed.map (Nat.cast : Nat → Int)) (i : Int) k = ((tryN seed i k : Nat) : Int) := by
 unfold tryS tryN tryB
 rw [be4_nat, be4_nat, ← List.map_append, ← List.map_append, sha_nat (by
  intro x hx
  rcases List.mem_append.1 hx with hx | hx
  · rcases List.mem_append.1 hx with hx | hx
    · exact hs x hx
    · exact be4N_lt i x hx
  · exact be4N_lt k x hx), ← List.map_take]
 exact beN_nat _ 0
theorem draw_nat {seed : List Nat} (hs : ∀ x, x ∈ seed → x < 256) {i q : Nat} (h : tryN seed i 0 + 18446744073709551616 % q < 18446744073709551616) : drawS (seed.map (Nat.cast : Nat → Int)) (i : Int) (q : Int) = some (((tryN seed i 0) % q : Nat) : Int) := by
 have e := drawS_hit (seed := seed.map (Nat.cast : Nat → Int)) (i := (i : Int)) (q := (q : Int)) (k := 1) (x := 0) (pre := []) (by omega) rfl (by simp) (by
  unfold skipS
  rw [Bool.and_eq_false_iff]
  right
  rw [try_nat hs, restS, show (18446744073709551616 : Int) % (q : Int) = ((18446744073709551616 % q : Nat) : Int) from (Int.natCast_emod 18446744073709551616 q).symm]
  refine decide_eq_false ?_
  omega)
 rw [e, try_nat hs]
 congr 1
theorem samp_nat {seed : List Nat} (hs : (seed.all fun x => decide (x < 256)) = true) {q : Nat} : ∀ k : Nat, ((List.range k).all fun i => decide (tryN seed i 0 + 18446744073709551616 % q < 18446744073709551616)) = true →
    sampS (seed.map (Nat.cast : Nat → Int)) (q : Int) k = some ((List.range k).map fun i => ((tryN seed i 0 % q : Nat) : Int))
  | 0, _ => rfl
  | k + 1, h => by
   have hs' : ∀ x, x ∈ seed → x < 256 := fun x hx => by simpa using List.all_eq_true.1 hs x hx
   rw [List.all_eq_true] at h
   rw [sampS, samp_nat hs k (List.all_eq_true.2 fun i hi => h i (by simp at hi ⊢; omega)), draw_nat hs' (by simpa using h k (by simp)), List.range_succ, List.map_append]
   rfl
def seedN (x : Nat) : List Nat := x :: List.replicate 31 0
theorem samp7 : ∃ d, sampS ((seedN 7).map (Nat.cast : Nat → Int)) 11 11 = some d := ⟨_, samp_nat (q := 11) (by decide +kernel) 11 (by decide +kernel)⟩
end Go.Proofs.YtlbldpkgnonbpaaDoor.Fast
