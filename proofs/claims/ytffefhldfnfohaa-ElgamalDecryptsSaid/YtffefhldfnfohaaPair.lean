/- A ciphertext that lies in memory. -/
import Derived.Test.YtffefhldfnfohaaEngine
namespace Go.Proofs.Ytffefhldfnfohaa
open Go.RowKit Num
set_option linter.unusedSimpArgs false
set_option linter.unusedVariables false

/-- Two numbers in the two cells of a block. -/
structure Pair (w : World) (b : Nat) (x y : Int) : Prop where
  c0 : w.cell? ⟨b, 0, none⟩ = some (.int .u64 x)
  c1 : w.cell? ⟨b, 1, none⟩ = some (.int .u64 y)
  f0 : w.frozen? ⟨b, 0, none⟩ = false
  f1 : w.frozen? ⟨b, 1, none⟩ = false
  lt : b < w.heap.size

theorem Pair.new (w : World) (x y : Int) (T : TypeId) : Pair (w.alloc (.cells #[.int .u64 x, .int .u64 y] T)) w.heap.size x y := by
  refine ⟨?_, ?_, ?_, ?_, by simp⟩
  · rw [World.cell?_alloc_new]; rfl
  · rw [World.cell?_alloc_new]; rfl
  · simp
  · simp
theorem Pair.at (w : World) (x y : Int) (T : TypeId) (b : Nat) (hb : b = w.heap.size) : Pair (w.alloc (.cells #[.int .u64 x, .int .u64 y] T)) b x y := by
  rw [hb]; exact Pair.new w x y T
theorem Boxed.at (w : World) (P Q G : Int) (T : TypeId) (b : Nat) (hb : b = w.heap.size) : Boxed (w.alloc (.cells #[.int .u64 P, .int .u64 Q, .int .u64 G] T)) b P Q G := by
  rw [hb]; exact Boxed.new w P Q G T
theorem ShL.laid (w : World) (xs : List Int) (vs : Array Value) (T : TypeId) (s n c : Nat) (hs : s = w.heap.size) (hn : n = xs.length) (hv : vs = (xs.map (Value.int IntKind.u64)).toArray) : ShL (w.alloc (.cells vs T)) (some ⟨s, 0, none⟩) n c xs := by
  rw [hs]; exact ShL.new w xs vs T n c hn hv
theorem Pair.keep {w w' : World} {b : Nat} {x y : Int} (h : Pair w b x y) (hb : Below w.heap.size w w') : Pair w' b x y :=
  ⟨(hb.cell (p := ⟨b, 0, none⟩) h.lt).trans h.c0, (hb.cell (p := ⟨b, 1, none⟩) h.lt).trans h.c1, (hb.frozen (p := ⟨b, 0, none⟩) h.lt).trans h.f0, (hb.frozen (p := ⟨b, 1, none⟩) h.lt).trans h.f1, Nat.lt_of_lt_of_le h.lt hb.size⟩
theorem Pair.drew {w : World} {b : Nat} {x y : Int} (h : Pair w b x y) : Pair w.drew b x y := h.keep (Below.refl _ _).drew
theorem Pair.alloc {w : World} {b : Nat} {x y : Int} (h : Pair w b x y) (o : Obj) : Pair (w.alloc o) b x y := h.keep ((Below.refl _ _).alloc (Nat.le_refl _) o)
theorem Pair.first {w : World} {b : Nat} {x y : Int} (h : Pair w b x y) (x' : Int) : Pair (w.setCell ⟨b, 0, none⟩ (.int .u64 x')) b x' y := by
  refine ⟨World.cell?_setCell_same _ _ _ h.c0, ?_, ?_, ?_, by simpa using h.lt⟩
  · rw [World.cell?_setCell_other _ _ _ _ (by simp)]; exact h.c1
  · rw [World.frozen?_setCell]; exact h.f0
  · rw [World.frozen?_setCell]; exact h.f1
theorem Pair.second {w : World} {b : Nat} {x y : Int} (h : Pair w b x y) (y' : Int) : Pair (w.setCell ⟨b, 1, none⟩ (.int .u64 y')) b x y' := by
  refine ⟨?_, World.cell?_setCell_same _ _ _ h.c1, ?_, ?_, by simpa using h.lt⟩
  · rw [World.cell?_setCell_other _ _ _ _ (by simp)]; exact h.c0
  · rw [World.frozen?_setCell]; exact h.f0
  · rw [World.frozen?_setCell]; exact h.f1
theorem Pair.stored {w : World} {b : Nat} {x y : Int} (h : Pair w b x y) (x' y' : Int) : Pair ((w.setCell ⟨b, 0, none⟩ (.int .u64 x')).setCell ⟨b, 1, none⟩ (.int .u64 y')) b x' y' := (h.first x').second y'
theorem Pair.far {w : World} {b c o : Nat} {x y : Int} (h : Pair w b x y) (hn : c ≠ b) (v : Value) : Pair (w.setCell ⟨c, o, none⟩ v) b x y := by
  refine ⟨?_, ?_, ?_, ?_, by simpa using h.lt⟩
  · rw [World.cell?_setCell_other _ _ _ _ (fun e => hn (congrArg Addr.block e))]; exact h.c0
  · rw [World.cell?_setCell_other _ _ _ _ (fun e => hn (congrArg Addr.block e))]; exact h.c1
  · rw [World.frozen?_setCell]; exact h.f0
  · rw [World.frozen?_setCell]; exact h.f1
theorem Pair.added {w w' : World} {E b : Nat} {x y : Int} (h : Pair w b x y) (ha : Added w w' E) (hn : b ≠ E) : Pair w' b x y :=
  ⟨(ha.cell b 0 h.lt hn).trans h.c0, (ha.cell b 1 h.lt hn).trans h.c1, (ha.frozen b 0 h.lt hn).trans h.f0, (ha.frozen b 1 h.lt hn).trans h.f1, Nat.lt_of_lt_of_le h.lt (ha.below 0 (Nat.zero_le _) (Nat.zero_le _)).size⟩

theorem Boxed.added {w w' : World} {E B : Nat} {P Q G : Int} (h : Boxed w B P Q G) (ha : Added w w' E) (hn : B ≠ E) : Boxed w' B P Q G :=
  ⟨(ha.cell B 0 h.lt hn).trans h.c0, (ha.cell B 1 h.lt hn).trans h.c1, (ha.cell B 2 h.lt hn).trans h.c2, Nat.lt_of_lt_of_le h.lt (ha.below 0 (Nat.zero_le _) (Nat.zero_le _)).size⟩
theorem Boxed.far {w : World} {c o B : Nat} {P Q G : Int} (h : Boxed w B P Q G) (hn : c ≠ B) (v : Value) : Boxed (w.setCell ⟨c, o, none⟩ v) B P Q G := by
  refine ⟨?_, ?_, ?_, by simpa using h.lt⟩
  · rw [World.cell?_setCell_other _ _ _ _ (fun e => hn (congrArg Addr.block e))]; exact h.c0
  · rw [World.cell?_setCell_other _ _ _ _ (fun e => hn (congrArg Addr.block e))]; exact h.c1
  · rw [World.cell?_setCell_other _ _ _ _ (fun e => hn (congrArg Addr.block e))]; exact h.c2

/-- What a function hands back that returns a ciphertext and an error. -/
theorem res_pair {w : World} {fn : Func} {c t : Tmp} {b : Nat} {x y : Int} {v : Value} (h : fn.results = #[.cell c 26, .tmp t]) (hp : Pair w b x y) (tmps : Array Value)
    (hc : tmps[c]?.getD undef = .pointer (some ⟨b, 0, none⟩)) (ht : tmps[t]?.getD undef = v) : (results fn tmps).run Try.prog w = .ok (.tuple #[.agg #[.int .u64 x, .int .u64 y], v]) w := by
  have h0 := hp.c0
  have h1 := hp.c1
  simp [results, h, hc, ht, go_sem, h0, h1]
theorem res_alone {w : World} {fn : Func} {c : Tmp} {b : Nat} {x y : Int} (h : fn.results = #[.cell c 26]) (hp : Pair w b x y) (tmps : Array Value)
    (hc : tmps[c]?.getD undef = .pointer (some ⟨b, 0, none⟩)) : (results fn tmps).run Try.prog w = .ok (.agg #[.int .u64 x, .int .u64 y]) w := by
  have h0 := hp.c0
  have h1 := hp.c1
  simp [results, h, hc, go_sem, h0, h1]
end Go.Proofs.Ytffefhldfnfohaa
