/- A comparison of bit proofs. -/
import Derived.Test.YtmcpfinnhgbcpaaDoorBitS
import Derived.Laws.StructEq
namespace Go.Proofs.YtmcpfinnhgbcpaaDoor
open Go Go.RowKit Num
set_option linter.unusedSimpArgs false
set_option linter.unusedVariables false

theorem eq_p64d (n : Nat) (a b c d : Int) (w : World) : (Op.equalIn (n + 2) 52 (.agg #[.int .u64 a, .int .u64 b]) (.agg #[.int .u64 c, .int .u64 d])).run Tryd.prog w = .ok (a == c && b == d) w := by
  have u3 := Tryd.underlying22
  have a3 := Tryd.isAgg22
  have z3 := Tryd.sizeOf22
  rw [Op.equalIn]
  simp only [Sem.run_bind, run_underlying Tryd.underlying52, Result.andThen_ok]
  simp only [Std.Legacy.Range.forIn_eq_forIn_range', Std.Legacy.Range.size, Nat.sub_zero, Nat.add_sub_cancel, Nat.div_one, List.range'_succ, List.range'_zero, List.forIn_cons, List.forIn_nil]
  go_simp
  by_cases h1 : a = c <;> by_cases h2 : b = d <;> simp [h1, h2]
@[go_sem] theorem eq_p64l (a b : Int) (w : World) : (Op.equalIn 9999 52 (.agg #[.int .u64 a, .int .u64 b]) (.agg #[.int .u64 a, .int .u64 b])).run Tryd.prog w = .ok true w := by
  rw [eq_p64d 9997 a b a b w]; simp
theorem eqFields_all {P : Program} {w : World} (d : Nat) (xs : Array Value) : ∀ fs : List Field, (∀ f, f ∈ fs → ∃ a, (part f.type xs f.offset).run P w = .ok a w ∧ (Op.equalIn d f.type a a).run P w = .ok true w) → (Op.eqFields d xs xs fs).run P w = .ok true w
  | [], _ => by simp [Op.eqFields]
  | f :: fs, h => by
    obtain ⟨a, h1, h2⟩ := h f (by simp)
    have ih := eqFields_all d xs fs (fun g hg => h g (by simp [hg]))
    rw [Op.eqFields]
    by_cases hn : f.name ≠ "_"
    · rw [if_pos hn]
      simp only [Sem.run_bind, h1, h2, Result.andThen_ok, Bool.not_true, Bool.false_eq_true, if_false]
      exact ih
    · rw [if_neg hn]; exact ih
set_option maxRecDepth 100000 in
set_option maxHeartbeats 1000000 in
@[go_sem] theorem eq_bit (r0 r1 s0 s1 c0 c1 z0 z1 : Int) (w : World) : (Op.equalIn 10000 54 (.agg #[.int .u64 r0, .int .u64 r1, .int .u64 s0, .int .u64 s1, .int .u64 c0, .int .u64 c1, .int .u64 z0, .int .u64 z1]) (.agg #[.int .u64 r0, .int .u64 r1, .int .u64 s0, .int .u64 s1, .int .u64 c0, .int .u64 c1, .int .u64 z0, .int .u64 z1])).run Tryd.prog w = .ok true w := by
  have hu : Tryd.prog.underlying 54 = some (.struct (Tryd.prog.fieldsOf 54)) := by kernel_rfl
  have hfs : ((Tryd.prog.fieldsOf 54).toList.all fun f => f.type == 52 && (f.offset == 0 || f.offset == 2 || f.offset == 4 || f.offset == 6)) = true := by kernel_rfl
  rw [show (10000 : Nat) = 9999 + 1 from rfl, run_equalIn_struct w 9999 54 _ _ hu (by kernel_rfl)]
  refine eqFields_all 9999 _ _ fun f hf => ?_
  have h := List.all_eq_true.1 hfs f hf
  generalize (Tryd.prog.fieldsOf 54) = FF at hf
  simp only [Bool.and_eq_true, Bool.or_eq_true, beq_iff_eq] at h
  obtain ⟨h1, h2⟩ := h
  rw [h1]
  have ua := Tryd.isAgg52
  have za := Tryd.sizeOf52
  have hq : ∀ a b : Int, (Op.equalIn 9999 52 (.agg #[.int .u64 a, .int .u64 b]) (.agg #[.int .u64 a, .int .u64 b])).run Tryd.prog w = .ok true w := fun a b => by rw [eq_p64d 9997 a b a b w]; simp
  rcases h2 with ((h2 | h2) | h2) | h2
  · rw [h2]; exact ⟨.agg #[.int .u64 r0, .int .u64 r1], by go_simp, hq _ _⟩
  · rw [h2]; exact ⟨.agg #[.int .u64 s0, .int .u64 s1], by go_simp, hq _ _⟩
  · rw [h2]; exact ⟨.agg #[.int .u64 c0, .int .u64 c1], by go_simp, hq _ _⟩
  · rw [h2]; exact ⟨.agg #[.int .u64 z0, .int .u64 z1], by go_simp, hq _ _⟩
end Go.Proofs.YtmcpfinnhgbcpaaDoor
