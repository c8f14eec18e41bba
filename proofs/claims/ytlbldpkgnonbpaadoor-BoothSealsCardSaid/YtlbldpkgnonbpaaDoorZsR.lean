/- What a tied card asks: the tables of the digest as the program's text lays them; texts and signatures among the arguments. -/
import Derived.Test.YtlbldpkgnonbpaaDoorZsH
import Derived.Test.YtlbldpkgnonbpaaDoorZsA
import Derived.Test.YtlbldpkgnonbpaaDoorTie
import Derived.Test.YtlbldpkgnonbpaaDoorCards
import Derived.ProofKit
import Derived.LaidMore
import Derived.OpenShut
import Derived.Stop.Joined
import Derived.SevenTiedAt
import Derived.Laws.BytesArg
import Derived.Test.YtlbldpkgnonbpaaDoorZsP
import Derived.Laws.StructEq
import Derived.Test.YtlbldpkgnonbpaaDoorZsQ
namespace Go.Proofs.YtlbldpkgnonbpaaDoor
open Go Go.ChangeShapes Go.WideShapes Go.ChangeAt Go.RowKit Num Sha
set_option linter.unusedSimpArgs false
set_option linter.unusedVariables false

abbrev laidL : List (String × DataW Unit) := [("suffrage/digest.k", Rows.laid_suffrage_digest_k), ("suffrage/digest.first", Rows.laid_suffrage_digest_first)]
set_option maxRecDepth 100000 in
theorem door_met (os : Os) (args : Array Value) : laidMetH Tryd.prog laidL ((World.doorLaid Tryd.prog 19 os).forCall (fun _ _ => 0) ⟨#[], args, []⟩).memory :=
  laidMetH_of_parts3 (fuel := 8) (laidMet_of_run' 8 (by kernel_rfl) (by kernel_rfl)) (by kernel_rfl) (by kernel_rfl)

theorem cells_of_array {P : Program} {W : World} {t e : TypeId} {n : Nat} {k : IntKind} {H : Type} {enc : TypeId × Value → H} {base fuel : Nat} {spare : Nat → Bool} {held : Bool} {cs : Array Value} {x : DataW H × List MemPlace} {zs : List Int}
    (ht : P.underlying t = some (.array n e)) (he : P.underlying e = some (.int k)) (hc : P.cellsOf e = 1) (hd : DataW.trod enc P W base spare held fuel t cs.toList = some x) (hx : x.1 = .agg (zs.map fun z => .lit (.int k z))) :
    ∀ i, i < zs.length → cs[i]? = some (.int k (zs.getD i 0)) := by
  obtain ⟨xs, m, rfl, rfl, hl, hn, hf⟩ := DataW.trod_array ht hd
  intro i hi
  simp only [DataW.agg.injEq] at hx
  have hlen : xs.length = zs.length := by have := congrArg List.length hx; simpa using this
  have h1 := hf i (by omega)
  rw [hc, Nat.mul_one, List.getElem?_eq_getElem (by omega : i < xs.length)] at h1
  obtain ⟨z, e1, e2, -⟩ := DataW.trod_int he h1
  have h2 : (xs.map (·.1))[i]? = (zs.map fun z => (DataW.lit (.int k z) : DataW H))[i]? := by rw [hx]
  rw [List.getElem?_map, List.getElem?_map, List.getElem?_eq_getElem (by omega : i < xs.length), List.getElem?_eq_getElem hi, Option.map_some, Option.map_some, e2] at h2
  simp only [Option.some.injEq, DataW.lit.injEq, Lit.int.injEq, true_and] at h2
  have h3 : cs.toList[i]? = some (.int k z) := by
    have h4 : ((cs.toList.drop i).take 1)[0]? = some (.int k z) := by rw [e1]; rfl
    rw [List.getElem?_take_of_lt (by decide), List.getElem?_drop, Nat.add_zero] at h4
    exact h4
  rw [← Array.getElem?_toList, h3, h2, List.getD_eq_getElem?_getD, List.getElem?_eq_getElem hi]
  rfl

theorem gK : Tryd.prog.globalNamed "suffrage/digest.k" = some 1 := by kernel_rfl
theorem gF : Tryd.prog.globalNamed "suffrage/digest.first" = some 0 := by kernel_rfl
theorem tK : (Tryd.prog.globals[1]?).map (·.type) = some 155 := by kernel_rfl
theorem tF : (Tryd.prog.globals[0]?).map (·.type) = some 126 := by kernel_rfl

theorem tabs_of_laid {W : World} (h : laidMetH Tryd.prog laidL W) : Tabs W := by
  rw [MakeChecks.laidMetH_plain _ _ _ (by kernel_rfl)] at h
  obtain ⟨ps, ⟨g0, t0, cs0, f0, p0, q0, hg0, ht0, hv0, hd0, ⟨g1, t1, cs1, f1, p1, q1, hg1, ht1, hv1, hd1, _, _⟩, _⟩, _, _⟩ := h
  obtain rfl := Option.some.inj (gK.symm.trans hg0)
  obtain rfl := Option.some.inj (gF.symm.trans hg1)
  obtain rfl := Option.some.inj (tK.symm.trans ht0)
  obtain rfl := Option.some.inj (tF.symm.trans ht1)
  have hk := cells_of_array (zs := kTab) Tryd.underlying155 Tryd.underlying125 (by kernel_rfl) hd0 rfl
  have hf := cells_of_array (zs := firstS.l) Tryd.underlying126 Tryd.underlying125 (by kernel_rfl) hd1 rfl
  have ck : ∀ t, t < 64 → W.cell? ⟨1, t, none⟩ = some (.int .u32 (kAt t)) := fun t ht => (World.var?_cell hg0 hv0 t).trans (hk t ht)
  have cf : ∀ i, i < 8 → W.cell? ⟨0, i, none⟩ = some (.int .u32 (firstS.l.getD i 0)) := fun i hi => (World.var?_cell hg1 hv1 i).trans (hf i hi)
  exact ⟨ck, cf, World.block_lt_of_cell? W _ (ck 0 (by decide)), World.block_lt_of_cell? W _ (cf 0 (by decide))⟩

section
variable {H : Type} {enc : TypeId × Value → H} {w : World} {base : Nat} {held : Bool} {r : Reach} {b0 : Nat} {v : Value} {d : DataW H} {p : List MemPlace}
end

end Go.Proofs.YtlbldpkgnonbpaaDoor
namespace Go.Proofs.YtlbldpkgnonbpaaDoor
open Go Go.ChangeShapes Go.WideShapes Go.ChangeAt Go.RowKit Num Sha
set_option linter.unusedSimpArgs false
set_option linter.unusedVariables false
end Go.Proofs.YtlbldpkgnonbpaaDoor
namespace Go.Proofs.YtlbldpkgnonbpaaDoor
open Go Go.RowKit Num Sha
set_option linter.unusedSimpArgs false
set_option linter.unusedVariables false

theorem wpL_loadArrG {P : Program} {w : World} {o : Oper} {ops : Array Oper} {rest : List Oper} {a : Act} {Q : Exit → Act → World → Prop} (hw : Region.wanted o (yielded ops a.tmps) = true) (t : TypeId) (k : IntKind) (p : Operand) (b : Nat) (xs : List Int) (n : Nat) (e : TypeId) (ho : o.op = .load t p) (hp : a.eval p = .pointer (some ⟨b, 0, none⟩)) (hu : P.underlying t = some (.array n e))
    (hi : (P.info? t).map (·.size) = some xs.length) (hA : Arr k w b xs) (h : wpList P ops Q rest (a.put o.dst (.agg (valV k xs))) w) : wpList P ops Q (o :: rest) a w :=
  wpList_step fun K hK => by rw [if_pos hw]; exact wp_loadArr t k p b xs n e ho hp hu hi hA (hK _ _ h)
end Go.Proofs.YtlbldpkgnonbpaaDoor
namespace Go.Proofs.YtlbldpkgnonbpaaDoor
open Go Go.RowKit Num Sha
set_option linter.unusedSimpArgs false
set_option linter.unusedVariables false

set_option maxRecDepth 100000 in
set_option maxHeartbeats 8000000 in
theorem grow_nil (w : World) :
    Calls Tryd.prog 97 #[.slice none 0 0, .int .i64 0] w fun e w' => e = .returned (.slice none 0 0) ∧ w' = w := by
  go_enter Tryd.func97, Tryd.ntmps97
  go_wp2_with fail
  go_ret
  exact ⟨rfl, rfl⟩

set_option maxRecDepth 100000 in
set_option maxHeartbeats 8000000 in
theorem concat_nil {B : Nat} (w : World) (h0 : w.cell? ⟨B, 0, none⟩ = some (.slice none 0 0)) (h1 : w.cell? ⟨B, 1, none⟩ = some (.slice none 0 0)) :
    Calls Tryd.prog 68 #[.slice (some ⟨B, 0, none⟩) 2 2] w fun e w' => e = .returned (.slice none 0 0) ∧ w' = w := by
  obtain ⟨i0, hi, hz0, hz1, hz2⟩ := info_parts (P := Tryd.prog) (e := 29) (z := .agg #[.slice none 0 0, .slice none 0 0, .bool false, .int .u64 0, .int .u64 0, .int .u64 0, .int .u64 0, .int .u64 0, .int .u64 0, .int .u64 0, .int .u64 0]) (size := 11) (bytes := 120) (by kernel_rfl)
  go_enter Tryd.func68, Tryd.ntmps68
  go_wp2_with fail
  go_loop [3, 5, 11] (fun c3 _ c11 => c3 = .int .i64 0 ∧ (c11 = .int .i64 0 ∨ c11 = .int .i64 1 ∨ c11 = .int .i64 2)) (fun _ _ c11 => 2 - (intOf c11).toNat)
  case atStart => exact ⟨rfl, .inl rfl⟩
  case round =>
    obtain ⟨rfl, rfl | rfl | rfl⟩ := hrel
    · go_wp2_with fail
      go_round
      case rel => exact ⟨rfl, .inr (.inl rfl)⟩
      case measure => simp [intOf]
    · go_wp2_with fail
      go_round
      case rel => exact ⟨rfl, .inr (.inr rfl)⟩
      case measure => simp [intOf]
    · go_wp2_with fail
      refine (grow_nil _).mono ?_
      rintro e w1 ⟨rfl, rfl⟩
      go_wp2_with fail
      go_loop [6, 8, 27] (fun c6 _ c27 => c6 = .slice none 0 0 ∧ (c27 = .int .i64 0 ∨ c27 = .int .i64 1 ∨ c27 = .int .i64 2)) (fun _ _ c27 => 2 - (intOf c27).toNat)
      case atStart => exact ⟨rfl, .inl rfl⟩
      case round =>
        obtain ⟨rfl, rfl | rfl | rfl⟩ := hrel
        · go_wp2_with (at_builtin; refine wpList_append_own_none rfl _ _ 50 rfl w.heap.size 29 i0 11 Tryd.underlying50 hi _ _ _ rfl (World.ownsRow_nil w _ _ _) rfl ?_)
          go_round
          case rel => exact ⟨rfl, .inr (.inl rfl)⟩
          case measure => simp [intOf]
        · go_wp2_with (at_builtin; refine wpList_append_own_none rfl _ _ 50 rfl w.heap.size 29 i0 11 Tryd.underlying50 hi _ _ _ rfl (World.ownsRow_nil w _ _ _) rfl ?_)
          go_round
          case rel => exact ⟨rfl, .inr (.inr rfl)⟩
          case measure => simp [intOf]
        · go_wp2_with fail
          go_ret
          exact ⟨rfl, rfl⟩

set_option maxRecDepth 100000 in
set_option maxHeartbeats 8000000 in
theorem codes_nil {P Q G y n : Int} {one : Bool} (w : World) :
    Calls Tryd.prog 44 #[.agg #[.int .u64 P, .int .u64 Q, .int .u64 G], .int .u64 y, .int .i64 n, .bool one, .agg #[.slice none 0 0, .slice none 0 0, .slice none 0 0]] w fun e w' => e = .returned (.tuple #[.slice none 0 0, .bool true]) ∧ Below w.heap.size w w' := by
  have F_b := Lib.hid (show Cl ((w.alloc (.cells #[.int .u64 P, .int .u64 Q, .int .u64 G] 49)).alloc (.cells #[.slice none 0 0, .slice none 0 0, .slice none 0 0] 53)) (w.heap.size + 1) [.slice none 0 0, .slice none 0 0, .slice none 0 0] from Cl.at (w.alloc (.cells #[.int .u64 P, .int .u64 Q, .int .u64 G] 49)) [.slice none 0 0, .slice none 0 0, .slice none 0 0] _ (w.heap.size + 1) (by simp))
  have HBW := Lib.hid (show Below w.heap.size w ((w.alloc (.cells #[.int .u64 P, .int .u64 Q, .int .u64 G] 49)).alloc (.cells #[.slice none 0 0, .slice none 0 0, .slice none 0 0] 53)) from ((Below.refl _ _).alloc (Nat.le_refl _) _).alloc (by simp) _)
  have b0 := F_b.out.c 0 _ rfl
  have b1 := F_b.out.c 1 _ rfl
  have b2 := F_b.out.c 2 _ rfl
  go_enter Tryd.func44, Tryd.ntmps44
  go_wp2_with fail
  clear b0 b1 b2
  have F_s := Lib.hid (Cl.at ((w.alloc (.cells #[.int .u64 P, .int .u64 Q, .int .u64 G] 49)).alloc (.cells #[.slice none 0 0, .slice none 0 0, .slice none 0 0] 53)) [.slice none 0 0, .slice none 0 0] 50 (w.heap.size + 1 + 1) (by simp))
  refine (concat_nil _ (F_s.out.c 0 _ rfl) (F_s.out.c 1 _ rfl)).mono ?_
  rintro e w1 ⟨rfl, rfl⟩
  have F_b1 := Lib.hid (F_b.out.alloc (.cells #[.slice none 0 0, .slice none 0 0] 50))
  have b0 := F_b1.out.c 0 _ rfl
  have b1 := F_b1.out.c 1 _ rfl
  have b2 := F_b1.out.c 2 _ rfl
  go_wp2_with fail
  clear b0 b1 b2
  go_loopw [13, 42] (fun c13 c42 wr => c13 = .slice none 0 0 ∧ c42 = .int .i64 0 ∧ Hid (Cl wr (w.heap.size + 1) [.slice none 0 0, .slice none 0 0, .slice none 0 0]) ∧ Hid (Below w.heap.size w wr)) (fun _ _ _ => 0)
  case atStart => exact ⟨rfl, rfl, F_b1.out, HBW.out.alloc HBW.out.size _⟩
  case round =>
    obtain ⟨rfl, rfl, F_b2, HBW2⟩ := hrel
    have b2 := F_b2.out.c 2 _ rfl
    go_wp2_with fail
    clear b2
    go_loopw [80] (fun c80 wr => c80 = .int .i64 0 ∧ Hid (Below w.heap.size w wr)) (fun _ _ => 0)
    case atStart => exact ⟨rfl, HBW2.out⟩
    case round =>
      obtain ⟨rfl, HBW3⟩ := hrel
      go_wp2_with fail
      go_ret2
      exact ⟨rfl, HBW3.out⟩

set_option maxRecDepth 100000 in
set_option maxHeartbeats 8000000 in
theorem indexC_nil {cs : List Int} (w : World) :
    Calls Tryd.prog 96 #[.slice none 0 0, .agg (valV .u8 cs)] w fun e w' => e = .returned (.int .i64 (-1)) ∧ Below w.heap.size w w' := by
  have HBW := Lib.hid (show Below w.heap.size w (w.alloc (.cells (valV .u8 cs) 37)) from (Below.refl _ _).alloc (Nat.le_refl _) _)
  go_enter Tryd.func96, Tryd.ntmps96
  go_wp2_with fail
  go_loop [5, 8] (fun _ c8 => c8 = .int .i64 0) (fun _ _ => 0)
  case atStart => exact rfl
  case round =>
    obtain rfl := hrel
    go_wp2_with fail
    go_ret
    exact ⟨rfl, HBW.out⟩
theorem containsC_nil {cs : List Int} (w : World) (hl : cs.length = 32) :
    Calls Tryd.prog 64 #[.slice none 0 0, .agg (valV .u8 cs)] w fun e w' => e = .returned (.bool false) ∧ Below w.heap.size w w' := by
  have HL := Lib.hid hl
  have HBW := Lib.hid (show Below w.heap.size w (w.alloc (.cells (valV .u8 cs) 37)) from (Below.refl _ _).alloc (Nat.le_refl _) _)
  have F_a := Lib.hid (Arr.new .u8 w cs 37 w.heap.size rfl)
  clear hl
  go_enter Tryd.func64, Tryd.ntmps64
  go_wp2_with (refine wpL_loadArr rfl 37 .u8 (.tmp 3) w.heap.size cs 32 5 rfl rfl Tryd.underlying37 (by rw [HL.out]; kernel_rfl) F_a.out ?_; simp only [Act.put, sZc, sZa, sZb])
  refine (indexC_nil _).mono ?_
  rintro e w1 ⟨rfl, hb1⟩
  replace HBW := Lib.hid (HBW.out.trans (hb1.mono HBW.out.size))
  clear hb1
  go_wp2_with fail
  go_ret
  exact ⟨rfl, HBW.out⟩
end Go.Proofs.YtlbldpkgnonbpaaDoor
namespace Go.Proofs.YtlbldpkgnonbpaaDoor
open Go Go.RowKit Num Sha
set_option linter.unusedSimpArgs false
set_option linter.unusedVariables false

def admE (P Q G y n : Int) (one : Bool) (V : Vt) (e : Int) : Prop := (chkB P Q G y n ≠ 0 ∧ e = chkB P Q G y n) ∨
  (chkB P Q G y n = 0 ∧ (((V.one = one ∧ validP P Q G y n.toNat V) ∧ e = 0) ∨ (¬ (V.one = one ∧ validP P Q G y n.toNat V) ∧ e = 360)))
theorem codeF_len {V : Vt} {er : Int} {cs : List Int} (h : codeF V = (er, cs)) : cs.length = 32 := by
  unfold codeF at h
  split at h
  · obtain ⟨-, rfl⟩ := Prod.mk.inj h; rfl
  · obtain ⟨-, rfl⟩ := Prod.mk.inj h; exact shaS_len _
theorem Laid.arr0 {k : IntKind} {w w' : World} {b : Nat} {xs ys : List Int} (h : Laid k w w' b 0 xs) (ha : Arr k w b ys) : Arr k w' b xs :=
  ⟨fun i hi => by have := h.row i hi; rwa [Nat.zero_add] at this, fun i => (h.frozen _).trans (ha.f i), by rw [h.size]; exact ha.lt⟩

set_option maxRecDepth 100000 in
set_option maxHeartbeats 8000000 in
theorem admit_nil {P Q G y n e' : Int} {one : Bool} {V : Vt} (w : World) (hT : Tabs w) (hP : 0 ≤ P) (hQ : 0 ≤ Q) (hG : 0 ≤ G) (hy : 0 ≤ y) (hV : VtIn w V) (hc : admE P Q G y n one V e') :
    Calls Tryd.prog 39 #[.agg #[.int .u64 P, .int .u64 Q, .int .u64 G], .int .u64 y, .int .i64 n, .bool one, .agg #[.slice none 0 0, .slice none 0 0, .slice none 0 0], V.v] w fun e w' => e = .returned (.tuple #[.int .i64 0, .int .i64 e']) ∧ Below w.heap.size w w' := by
  have HT := Lib.hid hT
  have HV := Lib.hid hV
  have F_g := Lib.hid (show Cl (((w.alloc (.cells #[.int .u64 P, .int .u64 Q, .int .u64 G] 49)).alloc (.cells #[.slice none 0 0, .slice none 0 0, .slice none 0 0] 53)).alloc (.cells #[.slice V.a V.n V.c, .slice V.b V.m V.d, .bool V.one, .int .u64 V.z.r0, .int .u64 V.z.r1, .int .u64 V.z.s0, .int .u64 V.z.s1, .int .u64 V.z.c0, .int .u64 V.z.c1, .int .u64 V.z.z0, .int .u64 V.z.z1] 29)) w.heap.size [.int .u64 P, .int .u64 Q, .int .u64 G] from ((Cl.at w [.int .u64 P, .int .u64 Q, .int .u64 G] _ w.heap.size rfl).alloc _).alloc _)
  have F_b := Lib.hid (show Cl (((w.alloc (.cells #[.int .u64 P, .int .u64 Q, .int .u64 G] 49)).alloc (.cells #[.slice none 0 0, .slice none 0 0, .slice none 0 0] 53)).alloc (.cells #[.slice V.a V.n V.c, .slice V.b V.m V.d, .bool V.one, .int .u64 V.z.r0, .int .u64 V.z.r1, .int .u64 V.z.s0, .int .u64 V.z.s1, .int .u64 V.z.c0, .int .u64 V.z.c1, .int .u64 V.z.z0, .int .u64 V.z.z1] 29)) (w.heap.size + 1) [.slice none 0 0, .slice none 0 0, .slice none 0 0] from (Cl.at (w.alloc (.cells #[.int .u64 P, .int .u64 Q, .int .u64 G] 49)) [.slice none 0 0, .slice none 0 0, .slice none 0 0] _ (w.heap.size + 1) (by simp)).alloc _)
  have F_v := Lib.hid (show Cl (((w.alloc (.cells #[.int .u64 P, .int .u64 Q, .int .u64 G] 49)).alloc (.cells #[.slice none 0 0, .slice none 0 0, .slice none 0 0] 53)).alloc (.cells #[.slice V.a V.n V.c, .slice V.b V.m V.d, .bool V.one, .int .u64 V.z.r0, .int .u64 V.z.r1, .int .u64 V.z.s0, .int .u64 V.z.s1, .int .u64 V.z.c0, .int .u64 V.z.c1, .int .u64 V.z.z0, .int .u64 V.z.z1] 29)) (w.heap.size + 1 + 1) [.slice V.a V.n V.c, .slice V.b V.m V.d, .bool V.one, .int .u64 V.z.r0, .int .u64 V.z.r1, .int .u64 V.z.s0, .int .u64 V.z.s1, .int .u64 V.z.c0, .int .u64 V.z.c1, .int .u64 V.z.z0, .int .u64 V.z.z1] from Cl.at ((w.alloc (.cells #[.int .u64 P, .int .u64 Q, .int .u64 G] 49)).alloc (.cells #[.slice none 0 0, .slice none 0 0, .slice none 0 0] 53)) [.slice V.a V.n V.c, .slice V.b V.m V.d, .bool V.one, .int .u64 V.z.r0, .int .u64 V.z.r1, .int .u64 V.z.s0, .int .u64 V.z.s1, .int .u64 V.z.c0, .int .u64 V.z.c1, .int .u64 V.z.z0, .int .u64 V.z.z1] _ (w.heap.size + 1 + 1) (by simp))
  have HBW := Lib.hid (show Below w.heap.size w (((w.alloc (.cells #[.int .u64 P, .int .u64 Q, .int .u64 G] 49)).alloc (.cells #[.slice none 0 0, .slice none 0 0, .slice none 0 0] 53)).alloc (.cells #[.slice V.a V.n V.c, .slice V.b V.m V.d, .bool V.one, .int .u64 V.z.r0, .int .u64 V.z.r1, .int .u64 V.z.s0, .int .u64 V.z.s1, .int .u64 V.z.c0, .int .u64 V.z.c1, .int .u64 V.z.z0, .int .u64 V.z.z1] 29)) from (((Below.refl _ _).alloc (Nat.le_refl _) _).alloc (by simp) _).alloc (by simp <;> omega) _)
  have HC := Lib.hid hc
  have g0 := F_g.out.c 0 _ rfl
  have g1 := F_g.out.c 1 _ rfl
  have g2 := F_g.out.c 2 _ rfl
  clear hT hV hc
  unfold Vt.v
  go_enter Tryd.func39, Tryd.ntmps39
  go_wp2_with fail
  clear g0 g1 g2
  refine (bcheck_any _ hP hQ hG hy).mono ?_
  rintro e w1 ⟨rfl, hb1⟩
  replace F_g := Lib.hid (F_g.out.keep hb1)
  replace F_b := Lib.hid (F_b.out.keep hb1)
  replace F_v := Lib.hid (F_v.out.keep hb1)
  replace HBW := Lib.hid (HBW.out.trans (hb1.mono HBW.out.size))
  clear hb1
  obtain ⟨k, hk⟩ : ∃ k, chkB P Q G y n = k := ⟨_, rfl⟩
  have HK := Lib.hid hk
  have hC := HC.out
  unfold admE at hC
  rw [hk] at hC ⊢
  clear hk HC
  rcases hC with ⟨h1, rfl⟩ | ⟨rfl, h1⟩
  · go_wp2_with fail
    go_ret2
    exact ⟨rfl, HBW.out⟩
  · obtain ⟨hH, -, hn1, hn2⟩ := chkB_ok HK.out
    have HH := Lib.hid hH
    clear hH
    obtain ⟨j, rfl⟩ : ∃ j : Nat, n = (j : Int) := ⟨n.toNat, by omega⟩
    simp only [Int.toNat_natCast] at h1
    have g0 := F_g.out.c 0 _ rfl
    have g1 := F_g.out.c 1 _ rfl
    have g2 := F_g.out.c 2 _ rfl
    have b0 := F_b.out.c 0 _ rfl
    have b1 := F_b.out.c 1 _ rfl
    have b2 := F_b.out.c 2 _ rfl
    go_wp2_with fail
    clear g0 g1 g2 b0 b1 b2
    refine (codes_nil _).mono ?_
    rintro e w2 ⟨rfl, hb2⟩
    replace F_g := Lib.hid (F_g.out.keep hb2)
    replace F_v := Lib.hid (F_v.out.keep hb2)
    replace HBW := Lib.hid (HBW.out.trans (hb2.mono HBW.out.size))
    clear hb2 F_b
    have g0 := F_g.out.c 0 _ rfl
    have g1 := F_g.out.c 1 _ rfl
    have g2 := F_g.out.c 2 _ rfl
    obtain ⟨⟨q0, q1, q2, q3, q4, q5, q6, q7, q8, q9, q10⟩, -⟩ := F_v.out.k11
    by_cases ho : V.one = one
    case neg =>
      have he : e' = 360 := by rcases h1 with ⟨h2, -⟩ | ⟨-, h2⟩; exact absurd h2.1 ho; exact h2
      subst he
      clear h1
      go_wp2_with fail
      go_ret2
      exact ⟨rfl, HBW.out⟩
    case pos =>
    subst ho
    obtain ⟨vb, hvb⟩ := Prop.bool (validP P Q G y j V)
    have HVB := Lib.hid hvb
    clear hvb
    go_wp2_with fail
    clear g0 g1 g2 q0 q1 q2 q3 q4 q5 q6 q7 q8 q9 q10
    refine (valid_any (V := V) _ (HT.out.below HBW.out) HH.out hy (by omega) (by omega) (HV.out.keep HBW.out) HVB.out).mono ?_
    rintro e w3 ⟨rfl, hb3⟩
    replace F_v := Lib.hid (F_v.out.keep hb3)
    replace HBW := Lib.hid (HBW.out.trans (hb3.mono HBW.out.size))
    clear hb3
    cases vb with
    | false =>
      have he : e' = 360 := by
        rcases h1 with ⟨h2, -⟩ | ⟨-, h2⟩
        · have := HVB.out.2 h2.2; simp at this
        · exact h2
      subst he
      clear h1
      go_wp2_with fail
      go_ret2
      exact ⟨rfl, HBW.out⟩
    | true =>
      have hval : validP P Q G y j V := HVB.out.1 (by simp)
      have he : e' = 0 := by
        rcases h1 with ⟨-, h2⟩ | ⟨h2, -⟩
        · exact h2
        · simp [hval] at h2
      subst he
      have HCF := Lib.hid (show codeF V = (0, shaS V.bytes) by unfold codeF; rw [if_neg (by have := hval.1; have := hval.2.1; omega)])
      obtain ⟨cs, hcs⟩ : ∃ cs, shaS V.bytes = cs := ⟨_, rfl⟩
      rw [hcs] at HCF
      have HLC := Lib.hid (codeF_len HCF.out)
      clear h1 hval hcs
      obtain ⟨⟨q0, q1, q2, q3, q4, q5, q6, q7, q8, q9, q10⟩, -⟩ := F_v.out.k11
      go_wp2_with fail
      clear q0 q1 q2 q3 q4 q5 q6 q7 q8 q9 q10
      refine (bCode_any (V := V) _ (HT.out.below HBW.out) (HV.out.keep HBW.out) HCF.out).mono ?_
      rintro e w4 ⟨rfl, hb4⟩
      replace HBW := Lib.hid (HBW.out.trans (hb4.mono HBW.out.size))
      clear hb4
      obtain ⟨B4, hB4⟩ : ∃ B, w4.heap.size = B := ⟨_, rfl⟩
      obtain ⟨wo, rfl⟩ : ∃ wo, wo = w4 := ⟨_, rfl⟩
      go_wp2_with (first
        | (refine wpL_allocArr rfl 37 .u8 32 rfl (by kernel_rfl) ?_; intro wa h1; have F_a := Lib.hid h1.arr; have HB1 := Lib.hid (h1.below _ (Nat.le_refl _)); clear h1; simp only [Act.put, sZc, sZa, sZb]; rw [hB4] at F_a HB1 ⊢)
        | (refine wpL_storeArr rfl 37 .u8 _ _ B4 cs _ rfl rfl rfl rfl (by rw [HLC.out]; kernel_rfl) F_a.out (by rw [HLC.out]; rfl) ?_; intro w5 h9; have F_c := Lib.hid (Laid.arr0 h9 F_a.out); have HB3 := Lib.hid (show Below wo.heap.size wo w5 by rw [hB4]; exact HB1.out.trans (h9.below B4 (Nat.le_refl _))); clear h9 F_a HB1; replace HBW := Lib.hid (HBW.out.trans (HB3.out.mono HBW.out.size)); clear HB3 hB4)
        | (refine wpL_loadArrG rfl 37 .u8 (.tmp 17) B4 cs 32 5 rfl rfl Tryd.underlying37 (by rw [HLC.out]; kernel_rfl) F_c.out ?_; simp only [Act.put, sZc, sZa, sZb]))
      refine (containsC_nil _ HLC.out).mono ?_
      rintro e w6 ⟨rfl, hb6⟩
      replace HBW := Lib.hid (HBW.out.trans (hb6.mono HBW.out.size))
      clear hb6
      go_wp2_with fail
      go_ret2
      exact ⟨rfl, HBW.out⟩
end Go.Proofs.YtlbldpkgnonbpaaDoor
namespace Go.Proofs.YtlbldpkgnonbpaaDoor
open Go Go.RowKit Num Sha
set_option linter.unusedSimpArgs false
set_option linter.unusedVariables false

theorem res_booth1 {w : World} {fn : Func} {c : Tmp} {b : Nat} {a0 a1 a2 : Option Addr} {n0 n1 n2 c0 c1 c2 : Nat} (h : fn.results = #[.cell c 53]) (hp : Cl w b [.slice a0 n0 c0, .slice a1 n1 c1, .slice a2 n2 c2]) (tmps : Array Value)
    (hc : tmps[c]?.getD undef = .pointer (some ⟨b, 0, none⟩)) : (results fn tmps).run Tryd.prog w = .ok (.agg #[.slice a0 n0 c0, .slice a1 n1 c1, .slice a2 n2 c2]) w := by
  have q0 := hp.c 0 _ rfl
  have q1 := hp.c 1 _ rfl
  have q2 := hp.c 2 _ rfl
  simp [results, h, hc, go_sem, q0, q1, q2]
theorem res_booth2 {w : World} {fn : Func} {c t : Tmp} {b : Nat} {a0 a1 a2 : Option Addr} {n0 n1 n2 c0 c1 c2 : Nat} {v : Value} (h : fn.results = #[.cell c 53, .tmp t]) (hp : Cl w b [.slice a0 n0 c0, .slice a1 n1 c1, .slice a2 n2 c2]) (tmps : Array Value)
    (hc : tmps[c]?.getD undef = .pointer (some ⟨b, 0, none⟩)) (ht : tmps[t]?.getD undef = v) : (results fn tmps).run Tryd.prog w = .ok (.tuple #[.agg #[.slice a0 n0 c0, .slice a1 n1 c1, .slice a2 n2 c2], v]) w := by
  have q0 := hp.c 0 _ rfl
  have q1 := hp.c 1 _ rfl
  have q2 := hp.c 2 _ rfl
  simp [results, h, hc, ht, go_sem, q0, q1, q2]
theorem wp_push_v {w : World} {o : Oper} {a : Act} {K : Act → World → Prop} {Q : Exit → Act → World → Prop} (s x : Operand) (ho : o.op = .call { callee := .builtin .append, args := #[s, x], argTypes := #[50, 50] })
    (base n b : Nat) (v : Value) (xs : List Value) (us : List Value) (hs : a.eval s = v) (hx : a.eval x = .slice (some ⟨b, 0, none⟩) 1 1) (hown : w.ownsRow base 29 11 v n xs) (hu : us.length = 11) (h1 : ∀ u, u ∈ us → u.oneCell' = true) (hc : ∀ j u, us[j]? = some u → w.cell? ((⟨b, 0, none⟩ : Addr).add j) = some u) (hn : n ≤ 100000) (hb : base ≤ w.heap.size)
    (h : ∀ v' w', w'.ownsRow base 29 11 v' (n + 1) (xs ++ us) → w.grownBy w' v.ownBlock → K (a.put o.dst v') w') : o.wp Tryd.prog a w K Q := by
  obtain ⟨j0, ji, jz0, jz1, jz2⟩ := info_parts (P := Tryd.prog) (e := 29) (z := .agg #[.slice none 0 0, .slice none 0 0, .bool false, .int .u64 0, .int .u64 0, .int .u64 0, .int .u64 0, .int .u64 0, .int .u64 0, .int .u64 0, .int .u64 0]) (size := 11) (bytes := 120) (by kernel_rfl)
  exact wp_append_own w s x 50 ho base 29 j0 _ 11 120 Tryd.underlying50 ji jz0 jz1 jz2 rfl (by decide) v n xs hs hown ⟨b, 0, none⟩ 1 1 us hx (by rw [hu]) hc h1 (by unfold maxLen; omega) (by omega) hb (fun v' w' h1 h2 _ => h v' w' h1 h2)

set_option maxRecDepth 100000 in
set_option maxHeartbeats 8000000 in
theorem twin_nil (w : World) :
    Calls Tryd.prog 40 #[.agg #[.slice none 0 0, .slice none 0 0, .slice none 0 0]] w fun e w' => e = .returned (.agg #[.slice none 0 0, .slice none 0 0, .slice none 0 0]) ∧ Below w.heap.size w w' := by
  have F_1 := Lib.hid (show Cl (((w.alloc (.cells #[.slice none 0 0, .slice none 0 0, .slice none 0 0] 53)).alloc (.cells #[.slice none 0 0, .slice none 0 0, .slice none 0 0] 53)).alloc (.cells #[.slice none 0 0, .slice none 0 0, .slice none 0 0] 53)) w.heap.size [.slice none 0 0, .slice none 0 0, .slice none 0 0] from ((Cl.at w [.slice none 0 0, .slice none 0 0, .slice none 0 0] _ w.heap.size rfl).alloc _).alloc _)
  have F_2 := Lib.hid (show Cl (((w.alloc (.cells #[.slice none 0 0, .slice none 0 0, .slice none 0 0] 53)).alloc (.cells #[.slice none 0 0, .slice none 0 0, .slice none 0 0] 53)).alloc (.cells #[.slice none 0 0, .slice none 0 0, .slice none 0 0] 53)) (w.heap.size + 1) [.slice none 0 0, .slice none 0 0, .slice none 0 0] from (Cl.at (w.alloc (.cells #[.slice none 0 0, .slice none 0 0, .slice none 0 0] 53)) [.slice none 0 0, .slice none 0 0, .slice none 0 0] _ (w.heap.size + 1) (by simp)).alloc _)
  have F_3 := Lib.hid (show Cl (((w.alloc (.cells #[.slice none 0 0, .slice none 0 0, .slice none 0 0] 53)).alloc (.cells #[.slice none 0 0, .slice none 0 0, .slice none 0 0] 53)).alloc (.cells #[.slice none 0 0, .slice none 0 0, .slice none 0 0] 53)) (w.heap.size + 1 + 1) [.slice none 0 0, .slice none 0 0, .slice none 0 0] from Cl.at ((w.alloc (.cells #[.slice none 0 0, .slice none 0 0, .slice none 0 0] 53)).alloc (.cells #[.slice none 0 0, .slice none 0 0, .slice none 0 0] 53)) [.slice none 0 0, .slice none 0 0, .slice none 0 0] _ (w.heap.size + 1 + 1) (by simp))
  have HBW := Lib.hid (show Below w.heap.size w (((w.alloc (.cells #[.slice none 0 0, .slice none 0 0, .slice none 0 0] 53)).alloc (.cells #[.slice none 0 0, .slice none 0 0, .slice none 0 0] 53)).alloc (.cells #[.slice none 0 0, .slice none 0 0, .slice none 0 0] 53)) from (((Below.refl _ _).alloc (Nat.le_refl _) _).alloc (by simp) _).alloc (by simp <;> omega) _)
  have a0 := F_1.out.c 0 _ rfl
  go_enter Tryd.func40, Tryd.ntmps40
  go_wp2_with fail
  clear a0
  go_loopw [13] (fun c13 wr => c13 = .int .i64 0 ∧ Hid (Cl wr w.heap.size [.slice none 0 0, .slice none 0 0, .slice none 0 0]) ∧ Hid (Cl wr (w.heap.size + 1) [.slice none 0 0, .slice none 0 0, .slice none 0 0]) ∧ Hid (Cl wr (w.heap.size + 1 + 1) [.slice none 0 0, .slice none 0 0, .slice none 0 0]) ∧ Hid (Below w.heap.size w wr)) (fun _ _ => 0)
  case atStart => exact ⟨rfl, F_1.out, F_2.out, F_3.out, HBW.out⟩
  case round =>
    clear F_1 F_2 F_3 HBW
    obtain ⟨rfl, F_1, F_2, F_3, HBW⟩ := hrel
    have a1 := F_1.out.c 1 _ rfl
    go_wp2_with fail
    clear a1
    go_loopw [28] (fun c28 wr => c28 = .int .i64 0 ∧ Hid (Cl wr w.heap.size [.slice none 0 0, .slice none 0 0, .slice none 0 0]) ∧ Hid (Cl wr (w.heap.size + 1) [.slice none 0 0, .slice none 0 0, .slice none 0 0]) ∧ Hid (Cl wr (w.heap.size + 1 + 1) [.slice none 0 0, .slice none 0 0, .slice none 0 0]) ∧ Hid (Below w.heap.size w wr)) (fun _ _ => 0)
    case atStart => exact ⟨rfl, F_1.out, F_2.out, F_3.out, HBW.out⟩
    case round =>
      clear F_1 F_2 F_3 HBW
      obtain ⟨rfl, F_1, F_2, F_3, HBW⟩ := hrel
      have a2 := F_1.out.c 2 _ rfl
      go_wp2_with fail
      clear a2
      go_loopw [43] (fun c43 wr => c43 = .int .i64 0 ∧ Hid (Cl wr (w.heap.size + 1) [.slice none 0 0, .slice none 0 0, .slice none 0 0]) ∧ Hid (Cl wr (w.heap.size + 1 + 1) [.slice none 0 0, .slice none 0 0, .slice none 0 0]) ∧ Hid (Below w.heap.size w wr)) (fun _ _ => 0)
      case atStart => exact ⟨rfl, F_2.out, F_3.out, HBW.out⟩
      case round =>
        clear F_1 F_2 F_3 HBW
        obtain ⟨rfl, F_2, F_3, HBW⟩ := hrel
        go_wp2_with (first
          | (refine wpL_loadCl rfl 53 (.tmp 3) (w.heap.size + 1 + 1) _ rfl rfl _ Tryd.underlying53 rfl (by kernel_rfl) F_3.out ?_)
          | (refine wpL_storeCl rfl 53 (.tmp 2) (.tmp 55) (w.heap.size + 1) 0 _ [.slice none 0 0, .slice none 0 0, .slice none 0 0] [.slice none 0 0, .slice none 0 0, .slice none 0 0] rfl rfl rfl rfl (by kernel_rfl) (by intro u hu; simp at hu; subst hu; rfl) F_2.out (by simp) rfl ?_
             intro w8 hc8 hg8 hz8
             have F_q := Lib.hid hc8
             have HG8 := Lib.hid hg8
             clear hc8 hg8 hz8))
        refine bodyPost_ret (res_booth1 rfl F_q.out _ rfl) rfl ?_
        exact ⟨rfl, HBW.out.trans (HG8.out.blw (n := w.heap.size) (by omega) HBW.out.size)⟩
end Go.Proofs.YtlbldpkgnonbpaaDoor
namespace Go.Proofs.YtlbldpkgnonbpaaDoor
open Go Go.RowKit Num Sha
set_option linter.unusedSimpArgs false
set_option linter.unusedVariables false

theorem own_slice {w : World} {base : Nat} {e : TypeId} {sz n : Nat} {v : Value} {xs : List Value} (h : w.ownsRow base e sz v n xs) : ∃ a c, v = .slice a n c := by
  rcases h.2 with ⟨h1, h2⟩ | ⟨g, cap, cur, h1, -⟩
  · subst h2; exact ⟨_, _, h1⟩
  · exact ⟨_, _, h1⟩
theorem ShS.slc {w : World} {a : Option Addr} {n : Nat} {ps : List (Int × Int)} {p : Addr} {u : Value} {a0 : Option Addr} {n0 c0 : Nat} (h : ShS w a n ps) (hp : w.cell? p = some (.slice a0 n0 c0)) : ShS (w.setCell p u) a n ps := by
  rcases h with h | ⟨s, o, h0, h1, h2, h3⟩
  · exact .inl h
  · refine .inr ⟨s, o, h0, h1, by simpa using h2, fun i hi => ⟨?_, ?_⟩⟩
    · rw [World.cell?_setCell_other _ _ _ _ (fun e => by rw [e, (h3 i hi).1] at hp; injection hp with hp; cases hp)]; exact (h3 i hi).1
    · rw [World.cell?_setCell_other _ _ _ _ (fun e => by rw [e, (h3 i hi).2] at hp; injection hp with hp; cases hp)]; exact (h3 i hi).2
theorem ShB.slc {w : World} {a : Option Addr} {n : Nat} {ps : List Bt} {p : Addr} {u : Value} {a0 : Option Addr} {n0 c0 : Nat} (h : ShB w a n ps) (hp : w.cell? p = some (.slice a0 n0 c0)) : ShB (w.setCell p u) a n ps := by
  rcases h with h | ⟨s, o, h0, h1, h2, h3⟩
  · exact .inl h
  · refine .inr ⟨s, o, h0, h1, by simpa using h2, fun i hi k v hv => ?_⟩
    have hc := h3 i hi k v hv
    obtain ⟨x, rfl⟩ : ∃ x, v = .int .u64 x := by
      have hm := List.mem_of_getElem? hv
      simp [Bt.vs] at hm
      rcases hm with rfl | rfl | rfl | rfl | rfl | rfl | rfl | rfl <;> exact ⟨_, rfl⟩
    rw [World.cell?_setCell_other _ _ _ _ (fun e => by rw [e, hc] at hp; injection hp with hp; cases hp)]; exact hc
theorem VtIn.slc {w : World} {V : Vt} {p : Addr} {u : Value} {a0 : Option Addr} {n0 c0 : Nat} (h : VtIn w V) (hp : w.cell? p = some (.slice a0 n0 c0)) : VtIn (w.setCell p u) V :=
  ⟨h.h1.slc hp, h.u1, h.k1, h.h2.slc hp, h.u2, h.k2, h.uz⟩
def CastR (w : World) (e' : Int) (V : Vt) (e : Ending) (w' : World) : Prop := Below w.heap.size w w' ∧ ((e' ≠ 0 ∧ e = .returned (.tuple #[.agg #[.slice none 0 0, .slice none 0 0, .slice none 0 0], .int .i64 e'])) ∨
  (e' = 0 ∧ ∃ (a : Option Addr) (c : Nat) (U : Vt), e = .returned (.tuple #[.agg #[.slice a 1 c, .slice none 0 0, .slice none 0 0], .int .i64 0]) ∧ VtIn w' U ∧ SameV U V ∧ w'.ownsRow w.heap.size 29 11 (.slice a 1 c) 1 U.vs))

set_option maxRecDepth 100000 in
set_option maxHeartbeats 8000000 in
theorem cast_nil {P Q G y n e' : Int} {one : Bool} {V : Vt} (w : World) (hT : Tabs w) (hP : 0 ≤ P) (hQ : 0 ≤ Q) (hG : 0 ≤ G) (hy : 0 ≤ y) (hV : VtIn w V) (hn : V.n ≤ 10000) (hm : V.m ≤ 10000) (hc : admE P Q G y n one V e') :
    Calls Tryd.prog 19 #[.agg #[.int .u64 P, .int .u64 Q, .int .u64 G], .int .u64 y, .int .i64 n, .bool one, .agg #[.slice none 0 0, .slice none 0 0, .slice none 0 0], V.v] w (CastR w e' V) := by
  have HT := Lib.hid hT
  have HV := Lib.hid hV
  have F_g := Lib.hid (show Cl ((((w.alloc (.cells #[.int .u64 P, .int .u64 Q, .int .u64 G] 49)).alloc (.cells #[.slice none 0 0, .slice none 0 0, .slice none 0 0] 53)).alloc (.cells #[.slice V.a V.n V.c, .slice V.b V.m V.d, .bool V.one, .int .u64 V.z.r0, .int .u64 V.z.r1, .int .u64 V.z.s0, .int .u64 V.z.s1, .int .u64 V.z.c0, .int .u64 V.z.c1, .int .u64 V.z.z0, .int .u64 V.z.z1] 29)).alloc (.cells #[.slice none 0 0, .slice none 0 0, .slice none 0 0] 53)) w.heap.size [.int .u64 P, .int .u64 Q, .int .u64 G] from (((Cl.at w [.int .u64 P, .int .u64 Q, .int .u64 G] _ w.heap.size rfl).alloc _).alloc _).alloc _)
  have F_b := Lib.hid (show Cl ((((w.alloc (.cells #[.int .u64 P, .int .u64 Q, .int .u64 G] 49)).alloc (.cells #[.slice none 0 0, .slice none 0 0, .slice none 0 0] 53)).alloc (.cells #[.slice V.a V.n V.c, .slice V.b V.m V.d, .bool V.one, .int .u64 V.z.r0, .int .u64 V.z.r1, .int .u64 V.z.s0, .int .u64 V.z.s1, .int .u64 V.z.c0, .int .u64 V.z.c1, .int .u64 V.z.z0, .int .u64 V.z.z1] 29)).alloc (.cells #[.slice none 0 0, .slice none 0 0, .slice none 0 0] 53)) (w.heap.size + 1) [.slice none 0 0, .slice none 0 0, .slice none 0 0] from ((Cl.at (w.alloc (.cells #[.int .u64 P, .int .u64 Q, .int .u64 G] 49)) [.slice none 0 0, .slice none 0 0, .slice none 0 0] _ (w.heap.size + 1) (by simp)).alloc _).alloc _)
  have F_v := Lib.hid (show Cl ((((w.alloc (.cells #[.int .u64 P, .int .u64 Q, .int .u64 G] 49)).alloc (.cells #[.slice none 0 0, .slice none 0 0, .slice none 0 0] 53)).alloc (.cells #[.slice V.a V.n V.c, .slice V.b V.m V.d, .bool V.one, .int .u64 V.z.r0, .int .u64 V.z.r1, .int .u64 V.z.s0, .int .u64 V.z.s1, .int .u64 V.z.c0, .int .u64 V.z.c1, .int .u64 V.z.z0, .int .u64 V.z.z1] 29)).alloc (.cells #[.slice none 0 0, .slice none 0 0, .slice none 0 0] 53)) (w.heap.size + 1 + 1) [.slice V.a V.n V.c, .slice V.b V.m V.d, .bool V.one, .int .u64 V.z.r0, .int .u64 V.z.r1, .int .u64 V.z.s0, .int .u64 V.z.s1, .int .u64 V.z.c0, .int .u64 V.z.c1, .int .u64 V.z.z0, .int .u64 V.z.z1] from (Cl.at ((w.alloc (.cells #[.int .u64 P, .int .u64 Q, .int .u64 G] 49)).alloc (.cells #[.slice none 0 0, .slice none 0 0, .slice none 0 0] 53)) [.slice V.a V.n V.c, .slice V.b V.m V.d, .bool V.one, .int .u64 V.z.r0, .int .u64 V.z.r1, .int .u64 V.z.s0, .int .u64 V.z.s1, .int .u64 V.z.c0, .int .u64 V.z.c1, .int .u64 V.z.z0, .int .u64 V.z.z1] _ (w.heap.size + 1 + 1) (by simp)).alloc _)
  have F_o := Lib.hid (show Cl ((((w.alloc (.cells #[.int .u64 P, .int .u64 Q, .int .u64 G] 49)).alloc (.cells #[.slice none 0 0, .slice none 0 0, .slice none 0 0] 53)).alloc (.cells #[.slice V.a V.n V.c, .slice V.b V.m V.d, .bool V.one, .int .u64 V.z.r0, .int .u64 V.z.r1, .int .u64 V.z.s0, .int .u64 V.z.s1, .int .u64 V.z.c0, .int .u64 V.z.c1, .int .u64 V.z.z0, .int .u64 V.z.z1] 29)).alloc (.cells #[.slice none 0 0, .slice none 0 0, .slice none 0 0] 53)) (w.heap.size + 1 + 1 + 1) [.slice none 0 0, .slice none 0 0, .slice none 0 0] from Cl.at (((w.alloc (.cells #[.int .u64 P, .int .u64 Q, .int .u64 G] 49)).alloc (.cells #[.slice none 0 0, .slice none 0 0, .slice none 0 0] 53)).alloc (.cells #[.slice V.a V.n V.c, .slice V.b V.m V.d, .bool V.one, .int .u64 V.z.r0, .int .u64 V.z.r1, .int .u64 V.z.s0, .int .u64 V.z.s1, .int .u64 V.z.c0, .int .u64 V.z.c1, .int .u64 V.z.z0, .int .u64 V.z.z1] 29)) [.slice none 0 0, .slice none 0 0, .slice none 0 0] _ (w.heap.size + 1 + 1 + 1) (by simp))
  have HBW := Lib.hid (show Below w.heap.size w ((((w.alloc (.cells #[.int .u64 P, .int .u64 Q, .int .u64 G] 49)).alloc (.cells #[.slice none 0 0, .slice none 0 0, .slice none 0 0] 53)).alloc (.cells #[.slice V.a V.n V.c, .slice V.b V.m V.d, .bool V.one, .int .u64 V.z.r0, .int .u64 V.z.r1, .int .u64 V.z.s0, .int .u64 V.z.s1, .int .u64 V.z.c0, .int .u64 V.z.c1, .int .u64 V.z.z0, .int .u64 V.z.z1] 29)).alloc (.cells #[.slice none 0 0, .slice none 0 0, .slice none 0 0] 53)) from ((((Below.refl _ _).alloc (Nat.le_refl _) _).alloc (by simp) _).alloc (by simp <;> omega) _).alloc (by simp <;> omega) _)
  have hB3 : w.heap.size + 1 + 1 + 1 < ((((w.alloc (.cells #[.int .u64 P, .int .u64 Q, .int .u64 G] 49)).alloc (.cells #[.slice none 0 0, .slice none 0 0, .slice none 0 0] 53)).alloc (.cells #[.slice V.a V.n V.c, .slice V.b V.m V.d, .bool V.one, .int .u64 V.z.r0, .int .u64 V.z.r1, .int .u64 V.z.s0, .int .u64 V.z.s1, .int .u64 V.z.c0, .int .u64 V.z.c1, .int .u64 V.z.z0, .int .u64 V.z.z1] 29)).alloc (.cells #[.slice none 0 0, .slice none 0 0, .slice none 0 0] 53)).heap.size := by simp
  have HC := Lib.hid hc
  have g0 := F_g.out.c 0 _ rfl
  have g1 := F_g.out.c 1 _ rfl
  have g2 := F_g.out.c 2 _ rfl
  have b0 := F_b.out.c 0 _ rfl
  have b1 := F_b.out.c 1 _ rfl
  have b2 := F_b.out.c 2 _ rfl
  obtain ⟨⟨q0, q1, q2, q3, q4, q5, q6, q7, q8, q9, q10⟩, -⟩ := F_v.out.k11
  clear hT hV hc hB3
  unfold Vt.v
  go_enter Tryd.func19, Tryd.ntmps19
  go_wp2_with fail
  clear g0 g1 g2 b0 b1 b2 q0 q1 q2 q3 q4 q5 q6 q7 q8 q9 q10
  refine (admit_nil (V := V) _ (HT.out.below HBW.out) hP hQ hG hy (HV.out.keep HBW.out) HC.out).mono ?_
  rintro e w1 ⟨rfl, hb1⟩
  replace F_b := Lib.hid (F_b.out.keep hb1)
  replace F_v := Lib.hid (F_v.out.keep hb1)
  replace F_o := Lib.hid (F_o.out.keep hb1)
  replace HBW := Lib.hid (HBW.out.trans (hb1.mono HBW.out.size))
  clear hb1
  by_cases he : e' = 0
  case neg =>
    have HE := Lib.hid he
    go_wp2_with (first
      | (refine wpL_storeCl rfl 53 (.tmp 12) (.tmp 29) (w.heap.size + 1 + 1 + 1) 0 _ [.slice none 0 0, .slice none 0 0, .slice none 0 0] [.slice none 0 0, .slice none 0 0, .slice none 0 0] rfl rfl rfl rfl (by kernel_rfl) (by intro u hu; simp at hu; rcases hu with rfl | rfl | rfl <;> rfl) F_o.out (by simp) rfl ?_
         intro w8 hc8 hg8 hz8
         have F_q := Lib.hid hc8
         have HG8 := Lib.hid hg8
         have hz8' := hz8
         clear hc8 hg8 hz8))
    refine bodyPost_ret (res_booth2 rfl F_q.out _ rfl rfl) rfl ?_
    exact ⟨HBW.out.trans (HG8.out.blw (n := w.heap.size) (by omega) HBW.out.size), .inl ⟨HE.out, rfl⟩⟩
  case pos =>
    subst he
    have b0 := F_b.out.c 0 _ rfl
    have b1 := F_b.out.c 1 _ rfl
    have b2 := F_b.out.c 2 _ rfl
    go_wp2_with fail
    clear b0 b1 b2
    refine (twin_nil _).mono ?_
    rintro e w2 ⟨rfl, hb2⟩
    replace F_v := Lib.hid (F_v.out.keep hb2)
    replace F_o := Lib.hid (F_o.out.keep hb2)
    replace HBW := Lib.hid (HBW.out.trans (hb2.mono HBW.out.size))
    clear hb2 F_b
    have hl := F_o.out.lt
    obtain ⟨wo, rfl⟩ : ∃ wo, wo = w2 := ⟨_, rfl⟩
    go_wp2_with fail
    have F_t := Lib.hid (Cl.at wo [.slice none 0 0, .slice none 0 0, .slice none 0 0] 53 wo.heap.size rfl)
    have F_v2 := Lib.hid (F_v.out.alloc (.cells #[.slice none 0 0, .slice none 0 0, .slice none 0 0] 53))
    have F_o2 := Lib.hid (F_o.out.alloc (.cells #[.slice none 0 0, .slice none 0 0, .slice none 0 0] 53))
    have HBW2 := Lib.hid (HBW.out.alloc HBW.out.size (.cells #[.slice none 0 0, .slice none 0 0, .slice none 0 0] 53))
    have t0 := F_t.out.c 0 _ rfl
    obtain ⟨⟨q0, q1, q2, q3, q4, q5, q6, q7, q8, q9, q10⟩, -⟩ := F_v2.out.k11
    go_region_law (first
      | (go_simp
         go_at_call 41
         refine (twinVote_any (V := V) _ (HV.out.keep HBW2.out.drew) hn hm).mono ?_
         rintro e w5 ⟨U, rfl, hU5, hS5, hb5⟩
         have HU5 := Lib.hid hU5
         have HS5 := Lib.hid hS5
         have F_t5 := Lib.hid (F_t.out.drew.keep hb5)
         have F_o5 := Lib.hid (F_o2.out.drew.keep hb5)
         have HBW5 := Lib.hid (HBW2.out.drew.trans (hb5.mono HBW2.out.drew.size))
         have hz5 : wo.heap.size < w5.heap.size := by have := hb5.size; simp only [World.size_drew, World.size_alloc] at this; omega
         unfold Vt.v
         have u0 := F_t5.out.c 0 _ rfl
         have uf := F_t5.out.f 0
         have x0 := (F_t5.out.alloc (.cells #[.slice U.a U.n U.c, .slice U.b U.m U.d, .bool U.one, .int .u64 U.z.r0, .int .u64 U.z.r1, .int .u64 U.z.s0, .int .u64 U.z.s1, .int .u64 U.z.c0, .int .u64 U.z.c1, .int .u64 U.z.z0, .int .u64 U.z.z1] 29)).c 0 _ rfl
         have xf := (F_t5.out.alloc (.cells #[.slice U.a U.n U.c, .slice U.b U.m U.d, .bool U.one, .int .u64 U.z.r0, .int .u64 U.z.r1, .int .u64 U.z.s0, .int .u64 U.z.s1, .int .u64 U.z.c0, .int .u64 U.z.c1, .int .u64 U.z.z0, .int .u64 U.z.z1] 29)).f 0
         clear hb5 hU5 hS5)
      | (refine wanted_wp rfl (wp_push_v (.tmp 37) (.tmp 40) rfl w5.heap.size 0 w5.heap.size (.slice none 0 0) [] [.slice U.a U.n U.c, .slice U.b U.m U.d, .bool U.one, .int .u64 U.z.r0, .int .u64 U.z.r1, .int .u64 U.z.s0, .int .u64 U.z.s1, .int .u64 U.z.c0, .int .u64 U.z.c1, .int .u64 U.z.z0, .int .u64 U.z.z1] ?jjv ?jjx ?jjo ?jjn ?jj1 ?jjc ?jjm ?jjb ?_)
         case jjv => kernel_rfl
         case jjx => kernel_rfl
         case jjo => exact World.ownsRow_nil _ _ _ _
         case jjn => rfl
         case jj1 => intro u hu; simp at hu; rcases hu with rfl | rfl | rfl | rfl | rfl | rfl | rfl | rfl | rfl | rfl | rfl <;> rfl
         case jjc => exact cell_list_at _ _ _ _ rfl
         case jjm => omega
         case jjb => simp
         intro v9 w9 hown hgr
         obtain ⟨a9, c9, rfl⟩ := own_slice hown
         have HBW9 := Lib.hid (Below.rowT (n := w5.heap.size) hgr (fun k hk => by simp [Value.ownBlock] at hk) (by simp))
         have HO9 := Lib.hid (show w9.ownsRow w5.heap.size 29 11 (.slice a9 1 c9) 1 [.slice U.a U.n U.c, .slice U.b U.m U.d, .bool U.one, .int .u64 U.z.r0, .int .u64 U.z.r1, .int .u64 U.z.s0, .int .u64 U.z.s1, .int .u64 U.z.c0, .int .u64 U.z.c1, .int .u64 U.z.z0, .int .u64 U.z.z1] from hown)
         have F_t9 := Lib.hid ((F_t5.out.alloc (.cells #[.slice U.a U.n U.c, .slice U.b U.m U.d, .bool U.one, .int .u64 U.z.r0, .int .u64 U.z.r1, .int .u64 U.z.s0, .int .u64 U.z.s1, .int .u64 U.z.c0, .int .u64 U.z.c1, .int .u64 U.z.z0, .int .u64 U.z.z1] 29)).keepN HBW9.out (by omega))
         have y0 := F_t9.out.c 0 _ rfl
         have yf := F_t9.out.f 0
         clear hown hgr))
    all_goals
      have F_q := Lib.hid (F_t9.out.set (m := [.slice a9 1 c9, .slice none 0 0, .slice none 0 0]) 0 (.slice a9 1 c9) (by simp) rfl)
      have F_o9 := Lib.hid (((F_o5.out.alloc (.cells #[.slice U.a U.n U.c, .slice U.b U.m U.d, .bool U.one, .int .u64 U.z.r0, .int .u64 U.z.r1, .int .u64 U.z.s0, .int .u64 U.z.s1, .int .u64 U.z.c0, .int .u64 U.z.c1, .int .u64 U.z.z0, .int .u64 U.z.z1] 29)).keepN HBW9.out (by omega)).far ⟨wo.heap.size, 0, none⟩ (.slice a9 1 c9) (by simp <;> omega))
      have HU9 := Lib.hid ((HU5.out.keep (((Below.refl _ _).alloc (Nat.le_refl _) (.cells #[.slice U.a U.n U.c, .slice U.b U.m U.d, .bool U.one, .int .u64 U.z.r0, .int .u64 U.z.r1, .int .u64 U.z.s0, .int .u64 U.z.s1, .int .u64 U.z.c0, .int .u64 U.z.c1, .int .u64 U.z.z0, .int .u64 U.z.z1] 29)).trans HBW9.out)).slc (p := ⟨wo.heap.size, 0, none⟩) (u := .slice a9 1 c9) (F_t9.out.c 0 _ rfl))
      have HO_9 := Lib.hid (own_far HO9.out ⟨wo.heap.size, 0, none⟩ (.slice a9 1 c9) hz5)
      have HBW_9 := Lib.hid (show Below w.heap.size w (w9.setCell ⟨wo.heap.size, 0, none⟩ (.slice a9 1 c9)) from ((HBW5.out.alloc HBW5.out.size _).trans (HBW9.out.mono (by have := HBW5.out.size; omega))).setCell (by have := HBW.out.size; simp <;> omega) _)
      have hw35 : w.heap.size + 1 + 1 + 1 < w5.heap.size := by omega
      have hww5 : w.heap.size ≤ w5.heap.size := by omega
      obtain ⟨W9, hW9⟩ : ∃ W, W = w9.setCell ⟨wo.heap.size, 0, none⟩ (.slice a9 1 c9) := ⟨_, rfl⟩
      rw [← hW9] at F_q F_o9 HU9 HO_9 HBW_9
      have o0 := F_o9.out.c 0 _ rfl
      have o1 := F_o9.out.c 1 _ rfl
      have o2 := F_o9.out.c 2 _ rfl
      have of0 := F_o9.out.f 0
      have of1 := F_o9.out.f 1
      have of2 := F_o9.out.f 2
      have l0 := F_q.out.c 0 _ rfl
      have l1 := F_q.out.c 1 _ rfl
      have l2 := F_q.out.c 2 _ rfl
      clear F_t9 F_t5 F_o5 HBW5 HBW9 HU5 HO9 t0 u0 x0 xf
      rw [hW9] at o0 o1 o2 of0 of1 of2 l0 l1 l2
      go_wp2_with fail
      rw [← hW9]
      have F_r := Lib.hid (((F_o9.out.set (m := [.slice a9 1 c9, .slice none 0 0, .slice none 0 0]) 0 (.slice a9 1 c9) (by simp) rfl).set (m := [.slice a9 1 c9, .slice none 0 0, .slice none 0 0]) 1 (.slice none 0 0) (by simp) rfl).set (m := [.slice a9 1 c9, .slice none 0 0, .slice none 0 0]) 2 (.slice none 0 0) (by simp) rfl)
      refine bodyPost_ret (res_booth2 rfl F_r.out _ rfl rfl) rfl ?_
      have F_r1 := F_o9.out.set (m := [.slice a9 1 c9, .slice none 0 0, .slice none 0 0]) 0 (.slice a9 1 c9) (by simp) rfl
      have F_r2 := F_r1.set (m := [.slice a9 1 c9, .slice none 0 0, .slice none 0 0]) 1 (.slice none 0 0) (by simp) rfl
      refine ⟨((HBW_9.out.setCell (by simp <;> omega) _).setCell (by simp <;> omega) _).setCell (by simp <;> omega) _, .inr ⟨rfl, a9, c9, U, rfl, ((HU9.out.slc (F_o9.out.c 0 _ rfl)).slc (F_r1.c 1 _ rfl)).slc (F_r2.c 2 _ rfl), HS5.out, ?_⟩⟩
      exact owns_mono (own_far (own_far (own_far HO_9.out _ _ hw35) _ _ hw35) _ _ hw35) hww5
end Go.Proofs.YtlbldpkgnonbpaaDoor
