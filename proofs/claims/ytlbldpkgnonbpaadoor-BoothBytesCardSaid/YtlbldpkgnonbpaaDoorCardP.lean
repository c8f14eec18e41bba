/- What a tied card asks: the tables of the digest as the program's text lays them; texts and signatures among the arguments. -/
import Derived.Test.YtlbldpkgnonbpaaDoorEqC0
import Derived.Test.YtlbldpkgnonbpaaDoorOpen
import Derived.Test.YtlbldpkgnonbpaaDoorTie
import Derived.Test.YtlbldpkgnonbpaaDoorCards
import Derived.ProofKit
import Derived.LaidMore
import Derived.OpenShut
import Derived.Stop.Joined
import Derived.SevenTiedAt
import Derived.Laws.BytesArg
namespace Go.Proofs.YtlbldpkgnonbpaaDoor
open Go Go.ChangeShapes Go.WideShapes Go.ChangeAt Go.RowKit Num Sha
set_option linter.unusedSimpArgs false
set_option linter.unusedVariables false

abbrev laidL : List (String × DataW Unit) := [("suffrage/digest.k", Rows.laid_suffrage_digest_k), ("suffrage/digest.first", Rows.laid_suffrage_digest_first)]
set_option maxRecDepth 100000 in
theorem door_met (os : Os) (args : Array Value) : laidMetH Tryd.prog laidL ((World.doorLaid Tryd.prog 19 os).forCall (fun _ _ => 0) ⟨#[], args, []⟩).memory :=
  laidMetH_of_parts3 (fuel := 8) (laidMet_of_run' 8 (by kernel_rfl) (by kernel_rfl)) (by kernel_rfl) (by kernel_rfl)

theorem cells_of_array {P : Program} {W : World} {t e : TypeId} {n : Nat} {k : IntKind} {H : Type} {enc : TypeId × Value → H} {base fuel : Nat} {spare : Nat → Bool} {held : Bool} {cs : Array Value} {x : DataW H × List MemPlace} {zs : List Int}
    (ht : P.underlying t = some (.array n e)) (he : P.underlying e = some (.int k)) (hc : P.cellsOf e = 1) (hd : DataW.trod enc P W base spare held fuel t cs.toList = some x) (hx : x.1 = .agg (zs.map fun z => .lit (.int k z))) :
    ∀ i, i < zs.length → cs[i]? = some (.int k (zs.getD i 0)) := by
  obtain ⟨xs, m, rfl, rfl, hl, hn, hf⟩ := DataW.trod_array ht hd
  intro i hi
  simp only [DataW.agg.injEq] at hx
  have hlen : xs.length = zs.length := by have := congrArg List.length hx; simpa using this
  have h1 := hf i (by omega)
  rw [hc, Nat.mul_one, List.getElem?_eq_getElem (by omega : i < xs.length)] at h1
  obtain ⟨z, e1, e2, -⟩ := DataW.trod_int he h1
  have h2 : (xs.map (·.1))[i]? = (zs.map fun z => (DataW.lit (.int k z) : DataW H))[i]? := by rw [hx]
  rw [List.getElem?_map, List.getElem?_map, List.getElem?_eq_getElem (by omega : i < xs.length), List.getElem?_eq_getElem hi, Option.map_some, Option.map_some, e2] at h2
  simp only [Option.some.injEq, DataW.lit.injEq, Lit.int.injEq, true_and] at h2
  have h3 : cs.toList[i]? = some (.int k z) := by
    have h4 : ((cs.toList.drop i).take 1)[0]? = some (.int k z) := by rw [e1]; rfl
    rw [List.getElem?_take_of_lt (by decide), List.getElem?_drop, Nat.add_zero] at h4
    exact h4
  rw [← Array.getElem?_toList, h3, h2, List.getD_eq_getElem?_getD, List.getElem?_eq_getElem hi]
  rfl

theorem gK : Tryd.prog.globalNamed "suffrage/digest.k" = some 1 := by kernel_rfl
theorem gF : Tryd.prog.globalNamed "suffrage/digest.first" = some 0 := by kernel_rfl
theorem tK : (Tryd.prog.globals[1]?).map (·.type) = some 155 := by kernel_rfl
theorem tF : (Tryd.prog.globals[0]?).map (·.type) = some 126 := by kernel_rfl

/-- WHAT THE CONDITION GIVES THE WALKS. -/
theorem tabs_of_laid {W : World} (h : laidMetH Tryd.prog laidL W) : Tabs W := by
  rw [MakeChecks.laidMetH_plain _ _ _ (by kernel_rfl)] at h
  obtain ⟨ps, ⟨g0, t0, cs0, f0, p0, q0, hg0, ht0, hv0, hd0, ⟨g1, t1, cs1, f1, p1, q1, hg1, ht1, hv1, hd1, _, _⟩, _⟩, _, _⟩ := h
  obtain rfl := Option.some.inj (gK.symm.trans hg0)
  obtain rfl := Option.some.inj (gF.symm.trans hg1)
  obtain rfl := Option.some.inj (tK.symm.trans ht0)
  obtain rfl := Option.some.inj (tF.symm.trans ht1)
  have hk := cells_of_array (zs := kTab) Tryd.underlying155 Tryd.underlying125 (by kernel_rfl) hd0 rfl
  have hf := cells_of_array (zs := firstS.l) Tryd.underlying126 Tryd.underlying125 (by kernel_rfl) hd1 rfl
  have ck : ∀ t, t < 64 → W.cell? ⟨1, t, none⟩ = some (.int .u32 (kAt t)) := fun t ht => (World.var?_cell hg0 hv0 t).trans (hk t ht)
  have cf : ∀ i, i < 8 → W.cell? ⟨0, i, none⟩ = some (.int .u32 (firstS.l.getD i 0)) := fun i hi => (World.var?_cell hg1 hv1 i).trans (hf i hi)
  exact ⟨ck, cf, World.block_lt_of_cell? W _ (ck 0 (by decide)), World.block_lt_of_cell? W _ (cf 0 (by decide))⟩

section
variable {H : Type} {enc : TypeId × Value → H} {w : World} {base : Nat} {held : Bool} {r : Reach} {b0 : Nat} {v : Value} {d : DataW H} {p : List MemPlace}
set_option maxRecDepth 100000 in
theorem open_bytes (hv : Value.okWide Tryd.prog w r b0 30 v) (h : DataW.Trod enc Tryd.prog w base (fun _ => true) held 30 v d p) :
    ∃ a n c xs, v = .slice a n c ∧ ShI .u8 w a n xs ∧ ByteL xs ∧ (a = none → c = 0) ∧ n ≤ c := by
  obtain ⟨a, n, c, xs, h1, h2, h3, h4, h5⟩ := open_nums Tryd.underlying30 Tryd.underlying5 (by kernel_rfl) hv h
  exact ⟨a, n, c, xs, h1, h2, fun x hx => by
    have h := bounds_u8 (h3 x hx)
    omega, h4, h5⟩
end

/-- A text as a string. -/
theorem conv_text {w : World} {a : Option Addr} {n c : Nat} {T : List Int} (h : ShI .u8 w a n T) : (convert 30 9 (.slice a n c)).run Tryd.prog w = .ok (.string (strOfNums T)) w := by
  rcases h with ⟨rfl, rfl⟩ | ⟨s, o, rfl, hl, -, hc⟩
  · cases a with
    | none => exact run_convert_bytes_nil w _ _ Tryd.underlying30 Tryd.underlying5 0 c _ Tryd.underlying9
    | some ad =>
      rw [run_convert_bytes_string w _ _ _ _ 0 c Tryd.underlying30 Tryd.underlying5 Tryd.underlying9, run_bytesToString w _ 0 c [] (by simp [loadCells, loadCellsFrom])]
      rfl
  · exact run_convert_bytes_arg w _ _ Tryd.underlying30 Tryd.underlying5 s o n c T hl.symm (fun i hi => hc i (by omega)) _ Tryd.underlying9

end Go.Proofs.YtlbldpkgnonbpaaDoor
