/- Two equal codes; loads of arrays under a guard. -/
import Derived.Test.YtlbldpkgnonbpaaDoorByM
import Derived.Laws.StructEq
namespace Go.Proofs.YtlbldpkgnonbpaaDoor
open Go Go.RowKit Num Sha
set_option linter.unusedSimpArgs false
set_option linter.unusedVariables false

theorem forIn_ok {P : Program} {w : World} {α β : Type} (b : β) (f : α → β → Sem (ForInStep β)) : ∀ l : List α, (∀ i, i ∈ l → (f i b).run P w = .ok (.yield b) w) → (forIn l b f).run P w = .ok b w
  | [], _ => by simp
  | i :: l, h => by
    rw [List.forIn_cons, Sem.run_bind, h i (by simp)]
    simp only [Result.andThen_ok]
    exact forIn_ok b f l fun j hj => h j (by simp [hj])
theorem eq_code (cs : List Int) (hl : cs.length = 32) (w : World) : (Op.equalIn 10000 37 (.agg (valV .u8 cs)) (.agg (valV .u8 cs))).run Tryd.prog w = .ok true w := by
  have hs : ∀ i, i < 32 → (part 5 (valV .u8 cs) (i * 1)).run Tryd.prog w = .ok (.int .u8 (cs.getD i 0)) w := by
    intro i hi
    have ha := Tryd.isAgg5
    have hc : (valV .u8 cs)[i]? = some (.int .u8 (cs.getD i 0)) := by simp [valV, List.getD_eq_getElem?_getD, List.getElem?_eq_getElem (show i < cs.length by omega)]
    simp [part, ha, hc, go_sem]
  have hz := Tryd.sizeOf5 w
  rw [show (10000 : Nat) = 9999 + 1 from rfl, Op.equalIn]
  simp only [Sem.run_bind, run_underlying Tryd.underlying37, Result.andThen_ok, hz]
  simp only [Std.Legacy.Range.forIn_eq_forIn_range', Std.Legacy.Range.size, Nat.sub_zero, Nat.add_one_sub_one, Nat.div_one]
  rw [forIn_ok]
  · simp
  · intro i hi
    have hi' : i < 32 := by have := List.mem_range'_1.1 hi; omega
    have h1 := hs i hi'
    have h2 := run_equalIn_int w 9998 5 .u8 .u8 (cs.getD i 0) (cs.getD i 0) Tryd.underlying5
    simp only [Sem.run_bind, h1, Result.andThen_ok]
    rw [show (9999 : Nat) = 9998 + 1 from rfl, h2]
    simp
theorem wpL_loadArrG {P : Program} {w : World} {o : Oper} {ops : Array Oper} {rest : List Oper} {a : Act} {Q : Exit → Act → World → Prop} (hw : Region.wanted o (yielded ops a.tmps) = true) (t : TypeId) (k : IntKind) (p : Operand) (b : Nat) (xs : List Int) (n : Nat) (e : TypeId) (ho : o.op = .load t p) (hp : a.eval p = .pointer (some ⟨b, 0, none⟩)) (hu : P.underlying t = some (.array n e))
    (hi : (P.info? t).map (·.size) = some xs.length) (hA : Arr k w b xs) (h : wpList P ops Q rest (a.put o.dst (.agg (valV k xs))) w) : wpList P ops Q (o :: rest) a w :=
  wpList_step fun K hK => by rw [if_pos hw]; exact wp_loadArr t k p b xs n e ho hp hu hi hA (hK _ _ h)
end Go.Proofs.YtlbldpkgnonbpaaDoor
