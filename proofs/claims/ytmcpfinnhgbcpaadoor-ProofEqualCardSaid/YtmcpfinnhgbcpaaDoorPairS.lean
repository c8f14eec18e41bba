/- What a function hands back that returns a ciphertext. -/
import Derived.Test.YtmcpfinnhgbcpaaDoorPairZ
import Derived.Test.YtmcpfinnhgbcpaaDoorMemLog
namespace Go.Proofs.YtmcpfinnhgbcpaaDoor
open Go.RowKit Num
set_option linter.unusedSimpArgs false
set_option linter.unusedVariables false

/-- What a function hands back that returns a ciphertext and an error. -/
theorem res_pair {w : World} {fn : Func} {c t : Tmp} {b : Nat} {x y : Int} {v : Value} (h : fn.results = #[.cell c 51, .tmp t]) (hp : Pair w b x y) (tmps : Array Value)
    (hc : tmps[c]?.getD undef = .pointer (some ⟨b, 0, none⟩)) (ht : tmps[t]?.getD undef = v) : (results fn tmps).run Tryd.prog w = .ok (.tuple #[.agg #[.int .u64 x, .int .u64 y], v]) w := by
  have h0 := hp.c0
  have h1 := hp.c1
  simp [results, h, hc, ht, go_sem, h0, h1]
theorem res_alone {w : World} {fn : Func} {c : Tmp} {b : Nat} {x y : Int} (h : fn.results = #[.cell c 51]) (hp : Pair w b x y) (tmps : Array Value)
    (hc : tmps[c]?.getD undef = .pointer (some ⟨b, 0, none⟩)) : (results fn tmps).run Tryd.prog w = .ok (.agg #[.int .u64 x, .int .u64 y]) w := by
  have h0 := hp.c0
  have h1 := hp.c1
  simp [results, h, hc, go_sem, h0, h1]
end Go.Proofs.YtmcpfinnhgbcpaaDoor
