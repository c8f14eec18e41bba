/- A ciphertext in memory, across an engine's steps; what a function hands back that returns one. -/
import Derived.Test.YtembepajnigfiaaEngine
import Derived.Test.YtembepajnigfiaaPairZ
namespace Go.Proofs.Ytembepajnigfiaa
open Go.RowKit Num
set_option linter.unusedSimpArgs false
set_option linter.unusedVariables false

theorem Pair.added {w w' : World} {E b : Nat} {x y : Int} (h : Pair w b x y) (ha : Added w w' E) (hn : b ≠ E) : Pair w' b x y :=
  ⟨(ha.cell b 0 h.lt hn).trans h.c0, (ha.cell b 1 h.lt hn).trans h.c1, (ha.frozen b 0 h.lt hn).trans h.f0, (ha.frozen b 1 h.lt hn).trans h.f1, Nat.lt_of_lt_of_le h.lt (ha.below 0 (Nat.zero_le _) (Nat.zero_le _)).size⟩

theorem Boxed.added {w w' : World} {E B : Nat} {P Q G : Int} (h : Boxed w B P Q G) (ha : Added w w' E) (hn : B ≠ E) : Boxed w' B P Q G :=
  ⟨(ha.cell B 0 h.lt hn).trans h.c0, (ha.cell B 1 h.lt hn).trans h.c1, (ha.cell B 2 h.lt hn).trans h.c2, Nat.lt_of_lt_of_le h.lt (ha.below 0 (Nat.zero_le _) (Nat.zero_le _)).size⟩
/-- What a function hands back that returns a ciphertext and an error. -/
theorem res_pair {w : World} {fn : Func} {c t : Tmp} {b : Nat} {x y : Int} {v : Value} (h : fn.results = #[.cell c 45, .tmp t]) (hp : Pair w b x y) (tmps : Array Value)
    (hc : tmps[c]?.getD undef = .pointer (some ⟨b, 0, none⟩)) (ht : tmps[t]?.getD undef = v) : (results fn tmps).run Try.prog w = .ok (.tuple #[.agg #[.int .u64 x, .int .u64 y], v]) w := by
  have h0 := hp.c0
  have h1 := hp.c1
  simp [results, h, hc, ht, go_sem, h0, h1]
theorem res_alone {w : World} {fn : Func} {c : Tmp} {b : Nat} {x y : Int} (h : fn.results = #[.cell c 45]) (hp : Pair w b x y) (tmps : Array Value)
    (hc : tmps[c]?.getD undef = .pointer (some ⟨b, 0, none⟩)) : (results fn tmps).run Try.prog w = .ok (.agg #[.int .u64 x, .int .u64 y]) w := by
  have h0 := hp.c0
  have h1 := hp.c1
  simp [results, h, hc, go_sem, h0, h1]
end Go.Proofs.Ytembepajnigfiaa
