/- ElgamalOrder: what a round leaves. -/
import Derived.Test.YtffefhldfnfohaaAux32
import Derived.Test.YtffefhldfnfohaaSumRE
import Derived.Test.YtffefhldfnfohaaLawL
namespace Go.Proofs.Ytffefhldfnfohaa.lawOrder
open Go.RowKit Num
set_option linter.unusedSimpArgs false
set_option linter.unusedVariables false

theorem cell_pair_new (w : World) (a b : Value) (t : TypeId) : ∀ j u, [a, b][j]? = some u → (w.alloc (.cells #[a, b] t)).cell? ((⟨w.heap.size, 0, none⟩ : Addr).add j) = some u := by
  intro j u hj
  rw [add_pl, World.cell?_alloc_new]
  match j, hj with
  | 0, hj => simpa using hj
  | 1, hj => simpa using hj
theorem boxed_under {w w' : World} {b B : Nat} {P Q G : Int} (h : Boxed w b P Q G) (hb : Below B w w') (hlt : b < B) (hs : B ≤ w.heap.size) : Boxed w' b P Q G :=
  ⟨(hb.cell (p := ⟨b, 0, none⟩) hlt).trans h.c0, (hb.cell (p := ⟨b, 1, none⟩) hlt).trans h.c1, (hb.cell (p := ⟨b, 2, none⟩) hlt).trans h.c2, Nat.lt_of_lt_of_le h.lt hb.size⟩
/-- What holds behind the rounds that turn a list round: j elements are left. -/
structure TurnIn (w w1 wr : World) (ps : List (Int × Int)) (n j : Nat) (v : Value) : Prop where
  own : wr.ownsRow (w.heap.size + 1) 26 2 v (n - j) (flatS (ps.drop j).reverse)
  bel : Below (w.heap.size + 1) w1 wr
theorem drop_turn {ps : List (Int × Int)} {j : Nat} {u v : Int} (h : j < ps.length) (hg : ps.getD j (0, 0) = (u, v)) : flatS (ps.drop j).reverse = flatS (ps.drop (j + 1)).reverse ++ [.int .u64 u, .int .u64 v] := by
  rw [List.drop_eq_getElem_cons h, List.reverse_cons, flatS_append]
  have : ps[j] = (u, v) := by rw [List.getD_eq_getElem?_getD, List.getElem?_eq_getElem h] at hg; simpa using hg
  rw [this]; rfl
end Go.Proofs.Ytffefhldfnfohaa.lawOrder
