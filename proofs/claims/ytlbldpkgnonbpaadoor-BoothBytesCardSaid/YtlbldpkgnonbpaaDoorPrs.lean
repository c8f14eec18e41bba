/- Folded: PairZ, PairS, RelZ, LawZ. -/
import Derived.Test.YtlbldpkgnonbpaaDoorAsk
import Derived.Test.YtlbldpkgnonbpaaDoorMemLog
import Derived.Test.YtlbldpkgnonbpaaDoorRfs
import Derived.Test.YtlbldpkgnonbpaaDoorValid
import Derived.Test.YtlbldpkgnonbpaaDoorPrime
/- Two numbers, and rows of numbers, that lie in memory. -/
namespace Go.Proofs.YtlbldpkgnonbpaaDoor
open Go.RowKit Num
set_option linter.unusedSimpArgs false
set_option linter.unusedVariables false

/-- Two numbers in the two cells of a block. -/
structure Pair (w : World) (b : Nat) (x y : Int) : Prop where
  c0 : w.cell? ⟨b, 0, none⟩ = some (.int .u64 x)
  c1 : w.cell? ⟨b, 1, none⟩ = some (.int .u64 y)
  f0 : w.frozen? ⟨b, 0, none⟩ = false
  f1 : w.frozen? ⟨b, 1, none⟩ = false
  lt : b < w.heap.size

theorem Pair.new (w : World) (x y : Int) (T : TypeId) : Pair (w.alloc (.cells #[.int .u64 x, .int .u64 y] T)) w.heap.size x y := by
  refine ⟨?_, ?_, ?_, ?_, by simp⟩
  · rw [World.cell?_alloc_new]; rfl
  · rw [World.cell?_alloc_new]; rfl
  · simp
  · simp
theorem Pair.at (w : World) (x y : Int) (T : TypeId) (b : Nat) (hb : b = w.heap.size) : Pair (w.alloc (.cells #[.int .u64 x, .int .u64 y] T)) b x y := by
  rw [hb]; exact Pair.new w x y T
theorem Boxed.at (w : World) (P Q G : Int) (T : TypeId) (b : Nat) (hb : b = w.heap.size) : Boxed (w.alloc (.cells #[.int .u64 P, .int .u64 Q, .int .u64 G] T)) b P Q G := by
  rw [hb]; exact Boxed.new w P Q G T
theorem ShL.laid (w : World) (xs : List Int) (vs : Array Value) (T : TypeId) (s n c : Nat) (hs : s = w.heap.size) (hn : n = xs.length) (hv : vs = (xs.map (Value.int IntKind.u64)).toArray) : ShL (w.alloc (.cells vs T)) (some ⟨s, 0, none⟩) n c xs := by
  rw [hs]; exact ShL.new w xs vs T n c hn hv
theorem Pair.keep {w w' : World} {b : Nat} {x y : Int} (h : Pair w b x y) (hb : Below w.heap.size w w') : Pair w' b x y :=
  ⟨(hb.cell (p := ⟨b, 0, none⟩) h.lt).trans h.c0, (hb.cell (p := ⟨b, 1, none⟩) h.lt).trans h.c1, (hb.frozen (p := ⟨b, 0, none⟩) h.lt).trans h.f0, (hb.frozen (p := ⟨b, 1, none⟩) h.lt).trans h.f1, Nat.lt_of_lt_of_le h.lt hb.size⟩
theorem Pair.drew {w : World} {b : Nat} {x y : Int} (h : Pair w b x y) : Pair w.drew b x y := h.keep (Below.refl _ _).drew
theorem Pair.alloc {w : World} {b : Nat} {x y : Int} (h : Pair w b x y) (o : Obj) : Pair (w.alloc o) b x y := h.keep ((Below.refl _ _).alloc (Nat.le_refl _) o)
theorem Pair.first {w : World} {b : Nat} {x y : Int} (h : Pair w b x y) (x' : Int) : Pair (w.setCell ⟨b, 0, none⟩ (.int .u64 x')) b x' y := by
  refine ⟨World.cell?_setCell_same _ _ _ h.c0, ?_, ?_, ?_, by simpa using h.lt⟩
  · rw [World.cell?_setCell_other _ _ _ _ (by simp)]; exact h.c1
  · rw [World.frozen?_setCell]; exact h.f0
  · rw [World.frozen?_setCell]; exact h.f1
theorem Pair.second {w : World} {b : Nat} {x y : Int} (h : Pair w b x y) (y' : Int) : Pair (w.setCell ⟨b, 1, none⟩ (.int .u64 y')) b x y' := by
  refine ⟨?_, World.cell?_setCell_same _ _ _ h.c1, ?_, ?_, by simpa using h.lt⟩
  · rw [World.cell?_setCell_other _ _ _ _ (by simp)]; exact h.c0
  · rw [World.frozen?_setCell]; exact h.f0
  · rw [World.frozen?_setCell]; exact h.f1
theorem Pair.stored {w : World} {b : Nat} {x y : Int} (h : Pair w b x y) (x' y' : Int) : Pair ((w.setCell ⟨b, 0, none⟩ (.int .u64 x')).setCell ⟨b, 1, none⟩ (.int .u64 y')) b x' y' := (h.first x').second y'
theorem Pair.far {w : World} {b c o : Nat} {x y : Int} (h : Pair w b x y) (hn : c ≠ b) (v : Value) : Pair (w.setCell ⟨c, o, none⟩ v) b x y := by
  refine ⟨?_, ?_, ?_, ?_, by simpa using h.lt⟩
  · rw [World.cell?_setCell_other _ _ _ _ (fun e => hn (congrArg Addr.block e))]; exact h.c0
  · rw [World.cell?_setCell_other _ _ _ _ (fun e => hn (congrArg Addr.block e))]; exact h.c1
  · rw [World.frozen?_setCell]; exact h.f0
  · rw [World.frozen?_setCell]; exact h.f1
theorem Boxed.far {w : World} {c o B : Nat} {P Q G : Int} (h : Boxed w B P Q G) (hn : c ≠ B) (v : Value) : Boxed (w.setCell ⟨c, o, none⟩ v) B P Q G := by
  refine ⟨?_, ?_, ?_, by simpa using h.lt⟩
  · rw [World.cell?_setCell_other _ _ _ _ (fun e => hn (congrArg Addr.block e))]; exact h.c0
  · rw [World.cell?_setCell_other _ _ _ _ (fun e => hn (congrArg Addr.block e))]; exact h.c1
  · rw [World.cell?_setCell_other _ _ _ _ (fun e => hn (congrArg Addr.block e))]; exact h.c2

def SBox (w : World) (B : Nat) (P Q G : Int) : Prop :=
  w.cell? ⟨B, 0, none⟩ = some (.int .u64 P) ∧ w.cell? ⟨B, 1, none⟩ = some (.int .u64 Q) ∧ w.cell? ⟨B, 2, none⟩ = some (.int .u64 G)
theorem Boxed.s {w : World} {B : Nat} {P Q G : Int} (h : Boxed w B P Q G) : SBox w B P Q G := ⟨h.c0, h.c1, h.c2⟩
def SPair (w : World) (B : Nat) (x y : Int) : Prop := w.cell? ⟨B, 0, none⟩ = some (.int .u64 x) ∧ w.cell? ⟨B, 1, none⟩ = some (.int .u64 y)
theorem Pair.s {w : World} {B : Nat} {x y : Int} (h : Pair w B x y) : SPair w B x y := ⟨h.c0, h.c1⟩
theorem wrap_u {x : Int} (h : 0 ≤ x) (h' : x < 18446744073709551616) : IntKind.u64.wrap x = x := by rw [IntKind.wrap_u64]; omega
theorem tmod_u {x y : Int} (h : 0 ≤ x) : x.tmod y = x % y := Int.tmod_eq_emod_of_nonneg h
end Go.Proofs.YtlbldpkgnonbpaaDoor
/- What a function hands back that returns a ciphertext. -/
namespace Go.Proofs.YtlbldpkgnonbpaaDoor
open Go.RowKit Num
set_option linter.unusedSimpArgs false
set_option linter.unusedVariables false

/-- What a function hands back that returns a ciphertext and an error. -/
theorem res_pair {w : World} {fn : Func} {c t : Tmp} {b : Nat} {x y : Int} {v : Value} (h : fn.results = #[.cell c 78, .tmp t]) (hp : Pair w b x y) (tmps : Array Value)
    (hc : tmps[c]?.getD undef = .pointer (some ⟨b, 0, none⟩)) (ht : tmps[t]?.getD undef = v) : (results fn tmps).run Tryd.prog w = .ok (.tuple #[.agg #[.int .u64 x, .int .u64 y], v]) w := by
  have h0 := hp.c0
  have h1 := hp.c1
  simp [results, h, hc, ht, go_sem, h0, h1]
theorem res_alone {w : World} {fn : Func} {c : Tmp} {b : Nat} {x y : Int} (h : fn.results = #[.cell c 78]) (hp : Pair w b x y) (tmps : Array Value)
    (hc : tmps[c]?.getD undef = .pointer (some ⟨b, 0, none⟩)) : (results fn tmps).run Tryd.prog w = .ok (.agg #[.int .u64 x, .int .u64 y]) w := by
  have h0 := hp.c0
  have h1 := hp.c1
  simp [results, h, hc, go_sem, h0, h1]
end Go.Proofs.YtlbldpkgnonbpaaDoor
/- The reference's Power. -/
namespace Go.Proofs.YtlbldpkgnonbpaaDoor
open Go.RowKit Num
set_option linter.unusedSimpArgs false
set_option linter.unusedVariables false

end Go.Proofs.YtlbldpkgnonbpaaDoor
/- Plain laws of a group that several chapters use, and the group of the examples. -/
namespace Go.Proofs.YtlbldpkgnonbpaaDoor
open Num
set_option linter.unusedSimpArgs false
set_option linter.unusedVariables false

theorem has_small : Has 23 11 4 := by unfold Has; omega
theorem powm_nat (a x m r : Nat) (h : a ^ x % m = r) : powm (a : Int) (x : Int) (m : Int) = (r : Int) := by
  subst h
  simp [powm, ← Int.natCast_pow, ← Int.natCast_emod]
theorem valid_small : Valid 23 11 4 := ⟨has_small, pr23, pr11, powm_nat 4 11 23 1 (by decide)⟩
theorem invS_of {m a r : Int} (h0 : 0 ≤ r) (h1 : r < m) (h2 : a * r % m = 1 % m) : InvS m a true r := .inl ⟨rfl, h0, h1, cg_of_emod h2⟩

theorem Num.Grp.cancel_mul {P Q G a b c : Int} (g : Grp P Q G) (hc : Mem P Q c) (ha : 0 ≤ a) (haP : a < P) (hb : 0 ≤ b) (hbP : b < P) (h : a * c % P = b * c % P) : a = b := by
  obtain ⟨i, i0, i1, ic⟩ := g.pP.inv (g.nd hc)
  have h1 : a * c * i % P = b * c * i % P := by rw [Int.mul_emod, h, ← Int.mul_emod]
  have h2 : c * i % P = 1 := by rw [ic.emod_eq]; exact g.one
  have h3 : ∀ z, z * c * i % P = z % P := fun z => by rw [Int.mul_assoc, Int.mul_emod, h2, Int.mul_one, Int.emod_emod_of_dvd _ (Int.dvd_refl _)]
  rw [h3, h3, Int.emod_eq_of_lt ha haP, Int.emod_eq_of_lt hb hbP] at h1
  exact h1
theorem Num.Grp.g_ne {P Q G : Int} (g : Grp P Q G) : G ≠ 1 := by have := g.g2; omega
end Go.Proofs.YtlbldpkgnonbpaaDoor
