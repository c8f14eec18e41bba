/- The parts of a vote, and their bytes. -/
import Derived.Test.YtlbldpkgnonbpaaDoorVts
import Derived.Test.YtlbldpkgnonbpaaDoorSg1
namespace Go.Proofs.YtlbldpkgnonbpaaDoor
open Go Go.RowKit Num Sha
set_option linter.unusedSimpArgs false
set_option linter.unusedVariables false

/-- Rows of other elements are kept. -/
def Others (w w' : World) : Prop := ∀ (base : Nat) (e : TypeId) (sz n : Nat) (u : Value) (ys : List Value), e ≠ 5 → w.ownsRow base e sz u n ys → w'.ownsRow base e sz u n ys
theorem Others.refl (w : World) : Others w w := fun _ _ _ _ _ _ _ h => h
theorem Others.trans {a b c : World} (h : Others a b) (k : Others b c) : Others a c := fun p q r s t u hne hr => k p q r s t u hne (h p q r s t u hne hr)
theorem Others.below {w w' : World} (h : Below w.heap.size w w') : Others w w' := fun _ _ _ _ _ _ _ hr =>
  World.ownsRow.kept (row := none) hr ⟨h.os, h.tape, h.output, h.size, fun k hk _ => h.block k hk⟩ (by cases Value.ownBlock _ <;> simp)
/-- Rows of different elements lie apart. -/
theorem own_diffN {W : World} {n n' k k' sz sz' : Nat} {e e' : TypeId} {v v' : Value} {xs xs' : List Value} (h : W.ownsRow n e sz v k xs) (h' : W.ownsRow n' e' sz' v' k' xs') (hne : e ≠ e') : v'.ownBlock = none ∨ v'.ownBlock ≠ v.ownBlock := by
  rcases h'.2 with ⟨rfl, _⟩ | ⟨g', cap', cur', rfl, b', c', d'⟩
  · exact .inl rfl
  · refine .inr fun e0 => ?_
    rcases h.2 with ⟨rfl, _⟩ | ⟨g, cap, cur, rfl, b, c, d⟩
    · simp [Value.ownBlock] at e0
    · simp [Value.ownBlock] at e0
      subst e0
      rw [c'] at c
      cases c
      exact hne rfl
theorem Others.grown {w w' : World} {n₀ : Nat} {v : Value} {xs : List Int} (hv : OwnB w n₀ v xs) (hg : w.grownBy w' v.ownBlock) : Others w w' := fun _ _ _ _ _ _ hne hr =>
  World.ownsRow.kept hr hg (own_diffN hv hr (Ne.symm hne))
/-- A part of a vote. -/
inductive Pt
  | box (a b : Int)
  | bit (z : Bt)
def Pt.v : Pt → Value
  | .box a b => .iface 79 (.agg #[.int .u64 a, .int .u64 b])
  | .bit z => .iface 81 (.agg #[.int .u64 z.r0, .int .u64 z.r1, .int .u64 z.s0, .int .u64 z.s1, .int .u64 z.c0, .int .u64 z.c1, .int .u64 z.z0, .int .u64 z.z1])
def Pt.ns : Pt → List Int
  | .box a b => [a, b]
  | .bit z => [z.r0, z.s0, z.r1, z.s1, z.c0, z.c1, z.z0, z.z1]
def Pt.u : Pt → Prop
  | .box a b => U64 a ∧ U64 b
  | .bit z => z.u
theorem Pt.us {p : Pt} (h : p.u) : ∀ x, x ∈ p.ns → U64 x := by
  cases p with
  | box a b =>
    intro x hx
    simp [Pt.ns] at hx
    rcases hx with rfl | rfl
    · exact h.1
    · exact h.2
  | bit z =>
    obtain ⟨h1, h2, h3, h4, h5, h6, h7, h8⟩ := h
    intro x hx
    simp [Pt.ns] at hx
    rcases hx with rfl | rfl | rfl | rfl | rfl | rfl | rfl | rfl <;> assumption
theorem Pt.len (p : Pt) : p.ns.length = 2 ∨ p.ns.length = 8 := by cases p <;> simp [Pt.ns]
/-- Numbers in a fresh row. -/
structure OwnQ (w : World) (n₀ s n : Nat) (ns : List Int) : Prop where
  len : ns.length = n
  row : w.ownsRow n₀ 24 1 (.slice (some ⟨s, 0, none⟩) n n) n (ns.map (Value.int .u64))
theorem OwnQ.at {w : World} {n₀ s n k : Nat} {ns : List Int} (h : OwnQ w n₀ s n ns) (hk : k < n) : w.cell? ⟨s, k, none⟩ = some (.int .u64 (ns.getD k 0)) := by
  have hl := h.len
  rw [h.row.cellAt k (by omega), List.getElem?_map, List.getElem?_eq_getElem (by omega), List.getD_eq_getElem?_getD, List.getElem?_eq_getElem (by omega)]
  rfl
theorem OwnQ.lit (w : World) (xs : List Int) (b n₀ : Nat) (hb : b = w.heap.size) (hn : n₀ ≤ w.heap.size) (hx : xs.length ≤ 100) : OwnQ (w.alloc (.cells (xs.map (Value.int .u64)).toArray 24)) n₀ b xs.length xs := by
  subst hb
  refine ⟨rfl, ?_⟩
  have := World.ownsRow_lit (e := 24) (size := 1) w (xs.map (Value.int .u64)).toArray xs.length hn (by unfold maxLen; omega) (by simp)
  simpa using this
theorem OwnQ.keep {w w' : World} {n₀ s n : Nat} {ns : List Int} (h : OwnQ w n₀ s n ns) (hb : Below w.heap.size w w') : OwnQ w' n₀ s n ns :=
  ⟨h.len, World.ownsRow.kept (row := none) h.row ⟨hb.os, hb.tape, hb.output, hb.size, fun k hk _ => hb.block k hk⟩ (.inr (by simp [Value.ownBlock]))⟩
theorem OwnQ.others {w w' : World} {n₀ s n : Nat} {ns : List Int} (h : OwnQ w n₀ s n ns) (ho : Others w w') : OwnQ w' n₀ s n ns := ⟨h.len, ho _ _ _ _ _ _ (by decide) h.row⟩
theorem shI_lit (w : World) (xs : List Int) (t : TypeId) (b : Nat) (hb : b = w.heap.size) : ShI .u64 (w.alloc (.cells (xs.map (Value.int .u64)).toArray t)) (some ⟨b, 0, none⟩) xs.length xs := by
  subst hb
  refine .inr ⟨_, 0, rfl, rfl, by simp, fun i hi => ?_⟩
  rw [World.cell?_alloc_new]
  simp [hi, List.getD_eq_getElem?_getD]

set_option maxRecDepth 100000 in
set_option maxHeartbeats 8000000 in
theorem boxNums_any {a b : Int} (w : World) :
    Calls Tryd.prog 141 #[.agg #[.int .u64 a, .int .u64 b]] w fun e w' => ∃ s, e = .returned (.slice (some ⟨s, 0, none⟩) 2 2) ∧ OwnQ w' w.heap.size s 2 [a, b] ∧ Below w.heap.size w w' := by
  have F_s := Lib.hid (show Pair (w.alloc (.cells #[.int .u64 a, .int .u64 b] 79)) w.heap.size a b from Pair.at _ a b _ w.heap.size rfl)
  have HBW := Lib.hid (show Below w.heap.size w (w.alloc (.cells #[.int .u64 a, .int .u64 b] 79)) from (Below.refl _ _).alloc (Nat.le_refl _) _)
  obtain ⟨x0a, x0b, x0c, x0d, -⟩ := id F_s.out
  go_enter Tryd.func141, Tryd.ntmps141
  go_wp2_with fail
  go_ret
  exact ⟨_, rfl, OwnQ.lit _ [a, b] _ _ (by simp) (by simp) (by simp), HBW.out.alloc HBW.out.size _⟩

/-- A bit proof in a box. -/
structure BBox (w : World) (B : Nat) (z : Bt) : Prop where
  lt : B < w.heap.size
  c0 : w.cell? ⟨B, 0, none⟩ = some (.int .u64 z.r0)
  c1 : w.cell? ⟨B, 1, none⟩ = some (.int .u64 z.r1)
  c2 : w.cell? ⟨B, 2, none⟩ = some (.int .u64 z.s0)
  c3 : w.cell? ⟨B, 3, none⟩ = some (.int .u64 z.s1)
  c4 : w.cell? ⟨B, 4, none⟩ = some (.int .u64 z.c0)
  c5 : w.cell? ⟨B, 5, none⟩ = some (.int .u64 z.c1)
  c6 : w.cell? ⟨B, 6, none⟩ = some (.int .u64 z.z0)
  c7 : w.cell? ⟨B, 7, none⟩ = some (.int .u64 z.z1)
theorem BBox.at (w : World) (z : Bt) (t : TypeId) (B : Nat) (hB : B = w.heap.size) : BBox (w.alloc (.cells #[.int .u64 z.r0, .int .u64 z.r1, .int .u64 z.s0, .int .u64 z.s1, .int .u64 z.c0, .int .u64 z.c1, .int .u64 z.z0, .int .u64 z.z1] t)) B z := by
  subst hB
  refine ⟨by simp, ?_, ?_, ?_, ?_, ?_, ?_, ?_, ?_⟩
  all_goals (rw [World.cell?_alloc_new]; rfl)
theorem BBox.keep {w w' : World} {B : Nat} {z : Bt} (h : BBox w B z) (hb : Below w.heap.size w w') : BBox w' B z :=
  ⟨Nat.lt_of_lt_of_le h.lt hb.size, (hb.cell (p := ⟨B, 0, none⟩) h.lt).trans h.c0, (hb.cell (p := ⟨B, 1, none⟩) h.lt).trans h.c1, (hb.cell (p := ⟨B, 2, none⟩) h.lt).trans h.c2, (hb.cell (p := ⟨B, 3, none⟩) h.lt).trans h.c3, (hb.cell (p := ⟨B, 4, none⟩) h.lt).trans h.c4, (hb.cell (p := ⟨B, 5, none⟩) h.lt).trans h.c5, (hb.cell (p := ⟨B, 6, none⟩) h.lt).trans h.c6, (hb.cell (p := ⟨B, 7, none⟩) h.lt).trans h.c7⟩

set_option maxRecDepth 100000 in
set_option maxHeartbeats 8000000 in
theorem bitNums_any {z : Bt} (w : World) :
    Calls Tryd.prog 142 #[.agg #[.int .u64 z.r0, .int .u64 z.r1, .int .u64 z.s0, .int .u64 z.s1, .int .u64 z.c0, .int .u64 z.c1, .int .u64 z.z0, .int .u64 z.z1]] w fun e w' => ∃ s, e = .returned (.slice (some ⟨s, 0, none⟩) 8 8) ∧ OwnQ w' w.heap.size s 8 [z.r0, z.s0, z.r1, z.s1, z.c0, z.c1, z.z0, z.z1] ∧ Below w.heap.size w w' := by
  have F_s := Lib.hid (show BBox (w.alloc (.cells #[.int .u64 z.r0, .int .u64 z.r1, .int .u64 z.s0, .int .u64 z.s1, .int .u64 z.c0, .int .u64 z.c1, .int .u64 z.z0, .int .u64 z.z1] 81)) w.heap.size z from BBox.at _ z _ w.heap.size rfl)
  have HBW := Lib.hid (show Below w.heap.size w (w.alloc (.cells #[.int .u64 z.r0, .int .u64 z.r1, .int .u64 z.s0, .int .u64 z.s1, .int .u64 z.c0, .int .u64 z.c1, .int .u64 z.z0, .int .u64 z.z1] 81)) from (Below.refl _ _).alloc (Nat.le_refl _) _)
  obtain ⟨-, b0, b1, b2, b3, b4, b5, b6, b7⟩ := id F_s.out
  go_enter Tryd.func142, Tryd.ntmps142
  go_wp2_with fail
  go_ret
  exact ⟨_, rfl, OwnQ.lit _ [z.r0, z.s0, z.r1, z.s1, z.c0, z.c1, z.z0, z.z1] _ _ (by simp) (by simp) (by simp), HBW.out.alloc HBW.out.size _⟩

/-- One byte appended after another; rows of other elements are kept. -/
structure GrewO (w0 w : World) (n₀ : Nat) (v : Value) (xs : List Int) : Prop where
  own : OwnB w n₀ v xs
  bel : Below n₀ w0 w
  le : n₀ ≤ w.heap.size
  oth : Others w0 w
theorem GrewO.leA {w0 w : World} {n₀ : Nat} {v : Value} {xs : List Int} (h : GrewO w0 w n₀ v xs) (ob : Obj) : n₀ ≤ (w.alloc ob).heap.size := Nat.le_trans h.le (by simp)
theorem GrewO.snoc {w0 w w' : World} {n₀ : Nat} {v v' : Value} {xs : List Int} {x : Int} {ob : Obj} (h : GrewO w0 w n₀ v xs) (hown : w'.ownsRow n₀ 5 1 v' (xs.length + 1) (xs.map (Value.int .u8) ++ [.int .u8 x])) (hg : (w.alloc ob).grownBy w' v.ownBlock) : GrewO w0 w' n₀ v' (xs ++ [x]) :=
  have ha : Below w.heap.size w (w.alloc ob) := (Below.refl _ _).alloc (Nat.le_refl _) ob
  have hb := OwnB.grow (h.bel.alloc h.le ob) (h.own.keep ha) hg (Nat.le_trans h.le (by simp))
  ⟨OwnB.snoc hown, hb, Nat.le_trans h.le (Nat.le_trans (by simp) hg.size), h.oth.trans ((Others.below ha).trans (Others.grown (h.own.keep ha) hg))⟩
theorem GrewO.below {w0 w w' : World} {n₀ : Nat} {v : Value} {xs : List Int} (h : GrewO w0 w n₀ v xs) (hb : Below w.heap.size w w') : GrewO w0 w' n₀ v xs :=
  ⟨h.own.keep hb, h.bel.trans (hb.mono h.le), Nat.le_trans h.le hb.size, h.oth.trans (Others.below hb)⟩

set_option maxRecDepth 100000 in
set_option maxHeartbeats 8000000 in
theorem write_any {p : Pt} {v : Value} {xs : List Int} {n₀ : Nat} (w : World) (hB : OwnB w n₀ v xs) (hn : n₀ ≤ w.heap.size) (hu : p.u) (hx : xs.length ≤ 100000) :
    Calls Tryd.prog 30 #[v, p.v] w fun e w' => ∃ v', e = .returned v' ∧ GrewO w w' n₀ v' (xs ++ flat8 p.ns) := by
  obtain ⟨i0, hi, hz0, hz1, hz2⟩ := info_parts (P := Tryd.prog) (e := 5) (z := .int .u8 0) (size := 1) (bytes := 1) (by kernel_rfl)
  have HB := Lib.hid hB
  have HU := Lib.hid (Pt.us hu)
  clear hB hu
  cases p with
  | box a b =>
    unfold Pt.v
    go_enter Tryd.func30, Tryd.ntmps30
    go_wp2_with fail
    refine (boxNums_any _).mono ?_
    rintro e w1 ⟨s, rfl, hs, hb1⟩
    have HNS := Lib.hid (show OwnQ w1 w.heap.size s 2 [a, b] from hs)
    have HG := Lib.hid (show GrewO w w1 n₀ v (xs ++ flat8 ([a, b].take 0)) from by
      have := GrewO.below (⟨HB.out, Below.refl _ _, hn, Others.refl _⟩ : GrewO w w n₀ v xs) hb1
      simpa [flat8] using this)
    clear hs hb1
    obtain ⟨ns, hns⟩ : ∃ ns, [a, b] = ns := ⟨_, rfl⟩
    rw [hns] at HNS HG
    have HFN := Lib.hid (show (Pt.box a b).ns = ns from hns)
    rw [show (Pt.box a b).ns = ns from hns] at HU
    clear hns
    go_wp2_with fail
    go_loopw [0, 11] (fun c0 c11 wr => ∃ j : Nat, j ≤ 2 ∧ c11 = .int .i64 j ∧ Hid (GrewO w wr n₀ c0 (xs ++ flat8 (ns.take j))) ∧ Hid (OwnQ wr w.heap.size s 2 ns)) (fun _ c11 _ => 2 - (intOf c11).toNat)
    case atStart => exact ⟨0, by omega, rfl, HG.out, HNS.out⟩
    case round =>
      clear HG HNS
      obtain ⟨k, hk, rfl, HG, HNS⟩ := hrel
      by_cases hlt : k < 2
      case neg =>
        obtain rfl : k = 2 := by omega
        rw [List.take_of_length_le (by rw [HNS.out.len]; exact Nat.le_refl _)] at HG
        clear hlt
        simp only [Int.cast_ofNat_Int]
        go_wp2_with fail
        go_ret
        exact ⟨_, rfl, by rw [HFN.out]; exact HG.out⟩
      case pos =>
        have hd : decide ((k : Int) < 2) = true := by simp; omega
        have hdn : decide (k < 2) = true := by simp; omega
        have k0 : (0 : Int) ≤ (k : Int) := by omega
        have k1 : (k : Int) < 2 := by omega
        have hw1 : IntKind.i64.wrap ((k : Int) + 1) = (k : Int) + 1 := IntWalk.i64_in _ (by omega)
        have hc := HNS.out.at hlt
        obtain ⟨x, hx⟩ : ∃ x, ns.getD k 0 = x := ⟨_, rfl⟩
        have HUX := Lib.hid (show U64 x from HU.out x (by rw [← hx, List.getD_eq_getElem?_getD, List.getElem?_eq_getElem (by have := HNS.out.len; omega)]; exact List.getElem_mem _))
        have HFL := Lib.hid (show flat8 (ns.take k) ++ be8 x = flat8 (ns.take (k + 1)) from flat8_snoc ns k (by have := HNS.out.len; omega) hx)
        obtain ⟨F, hF⟩ : ∃ F, xs ++ flat8 (ns.take k) = F := ⟨_, rfl⟩
        have HF := Lib.hid (show F.length ≤ 100100 by rw [← hF, List.length_append, flat8_len, List.length_take]; omega)
        have HFX := Lib.hid (show F ++ be8 x = xs ++ flat8 (ns.take (k + 1)) by rw [← hF, List.append_assoc, HFL.out])
        rw [hF] at HG
        rw [hx] at hc
        clear hF hx
        go_wp2_with fail
        clear hc
        go_loopw [0, 7] (fun c0 c7 wq => ∃ j : Nat, j ≤ 8 ∧ c7 = .int .i64 (56 - 8 * (j : Int)) ∧ Hid (GrewO w wq n₀ c0 (F ++ (be8 x).take j)) ∧ Hid (OwnQ wq w.heap.size s 2 ns)) (fun _ c7 _ => ((intOf c7) + 8).toNat)
        case atStart => exact ⟨0, by omega, rfl, (show GrewO _ _ _ _ (F ++ (be8 x).take 0) by simpa using HG.out), HNS.out⟩
        case round =>
          clear HG HNS
          obtain ⟨j, hj, rfl, HG, HNS⟩ := hrel
          by_cases hlj : j < 8
          case neg =>
            obtain rfl : j = 8 := by omega
            rw [take_all8, HFX.out] at HG
            go_wp2_with fail
            go_roundw
            case rel => exact ⟨k + 1, by omega, by go_num, HG.out, HNS.out⟩
            case measure => simp [intOf]; omega
          case pos =>
            have hd3 : decide ((0 : Int) ≤ 56 - 8 * (j : Int)) = true := by simp; omega
            have hd2 : decide (8 * (j : Int) ≤ 56) = true := by simp; omega
            have hws : IntKind.i64.wrap (56 - 8 * (j : Int) - 8) = 56 - 8 * (j : Int) - 8 := IntWalk.i64_in _ (by omega)
            have p0 : (0 : Int) ≤ 56 - 8 * (j : Int) := by omega
            have e0 : (56 - 8 * (j : Int)).toNat = 56 - 8 * j := by omega
            have hm0 : min (56 - 8 * j) 64 = 56 - 8 * j := by omega
            have x0 := HUX.out.1
            have hpl : (F ++ (be8 x).take j).length ≤ 100200 := by have := HF.out; simp [be8_len]; omega
            have HXM := Lib.hid (show (F ++ (be8 x).take j).length + 1 ≤ maxLen by unfold maxLen; omega)
            have HXB := Lib.hid (show ((F ++ (be8 x).take j).length + 1) * 1 ≤ 140737488355328 by omega)
            clear hpl
            go_wp2_with (at_builtin; (refine wpList_append_own _ rfl _ _ 30 rfl n₀ 5 i0 (.int .u8 0) 1 1 Tryd.underlying30 hi hz0 hz1 hz2 rfl (by decide) _ (F ++ (be8 x).take j).length ((F ++ (be8 x).take j).map (Value.int .u8)) rfl (HG.out.own.keep ((Below.refl _ _).alloc (Nat.le_refl _) _)) _ 1 1 [.int .u8 (x / 2 ^ (56 - 8 * j) % 256)] rfl rfl (fun j u hj => by cases j with | zero => simp at hj; subst hj; simp [go_sem] | succ j => simp at hj) (fun u hu => by simp at hu; subst hu; rfl) HXM.out HXB.out (HG.out.leA _) ?_); intro v4 w4 hown hgr hnil; have HG4 := Lib.hid (HG.out.snoc hown hgr); have HN4 := Lib.hid (HNS.out.others ((Others.below ((Below.refl _ _).alloc (Nat.le_refl _) _)).trans (Others.grown (HG.out.own.keep ((Below.refl _ _).alloc (Nat.le_refl _) _)) hgr))); clear hown hgr hnil)
            go_roundw
            case rel => exact ⟨j + 1, by omega, by go_num, by rw [← be8_snoc x j hlj rfl, ← List.append_assoc]; exact HG4.out, HN4.out⟩
            case measure => simp [intOf]; omega
  | bit z =>
    unfold Pt.v
    go_enter Tryd.func30, Tryd.ntmps30
    go_wp2_with fail
    refine (bitNums_any _).mono ?_
    rintro e w1 ⟨s, rfl, hs, hb1⟩
    have HNS := Lib.hid (show OwnQ w1 w.heap.size s 8 [z.r0, z.s0, z.r1, z.s1, z.c0, z.c1, z.z0, z.z1] from hs)
    have HG := Lib.hid (show GrewO w w1 n₀ v (xs ++ flat8 ([z.r0, z.s0, z.r1, z.s1, z.c0, z.c1, z.z0, z.z1].take 0)) from by
      have := GrewO.below (⟨HB.out, Below.refl _ _, hn, Others.refl _⟩ : GrewO w w n₀ v xs) hb1
      simpa [flat8] using this)
    clear hs hb1
    obtain ⟨ns, hns⟩ : ∃ ns, [z.r0, z.s0, z.r1, z.s1, z.c0, z.c1, z.z0, z.z1] = ns := ⟨_, rfl⟩
    rw [hns] at HNS HG
    have HFN := Lib.hid (show (Pt.bit z).ns = ns from hns)
    rw [show (Pt.bit z).ns = ns from hns] at HU
    clear hns
    go_wp2_with fail
    go_loopw [0, 11] (fun c0 c11 wr => ∃ j : Nat, j ≤ 8 ∧ c11 = .int .i64 j ∧ Hid (GrewO w wr n₀ c0 (xs ++ flat8 (ns.take j))) ∧ Hid (OwnQ wr w.heap.size s 8 ns)) (fun _ c11 _ => 8 - (intOf c11).toNat)
    case atStart => exact ⟨0, by omega, rfl, HG.out, HNS.out⟩
    case round =>
      clear HG HNS
      obtain ⟨k, hk, rfl, HG, HNS⟩ := hrel
      by_cases hlt : k < 8
      case neg =>
        obtain rfl : k = 8 := by omega
        rw [List.take_of_length_le (by rw [HNS.out.len]; exact Nat.le_refl _)] at HG
        clear hlt
        simp only [Int.cast_ofNat_Int]
        go_wp2_with fail
        go_ret
        exact ⟨_, rfl, by rw [HFN.out]; exact HG.out⟩
      case pos =>
        have hd : decide ((k : Int) < 8) = true := by simp; omega
        have hdn : decide (k < 8) = true := by simp; omega
        have k0 : (0 : Int) ≤ (k : Int) := by omega
        have k1 : (k : Int) < 8 := by omega
        have hw1 : IntKind.i64.wrap ((k : Int) + 1) = (k : Int) + 1 := IntWalk.i64_in _ (by omega)
        have hc := HNS.out.at hlt
        obtain ⟨x, hx⟩ : ∃ x, ns.getD k 0 = x := ⟨_, rfl⟩
        have HUX := Lib.hid (show U64 x from HU.out x (by rw [← hx, List.getD_eq_getElem?_getD, List.getElem?_eq_getElem (by have := HNS.out.len; omega)]; exact List.getElem_mem _))
        have HFL := Lib.hid (show flat8 (ns.take k) ++ be8 x = flat8 (ns.take (k + 1)) from flat8_snoc ns k (by have := HNS.out.len; omega) hx)
        obtain ⟨F, hF⟩ : ∃ F, xs ++ flat8 (ns.take k) = F := ⟨_, rfl⟩
        have HF := Lib.hid (show F.length ≤ 100100 by rw [← hF, List.length_append, flat8_len, List.length_take]; omega)
        have HFX := Lib.hid (show F ++ be8 x = xs ++ flat8 (ns.take (k + 1)) by rw [← hF, List.append_assoc, HFL.out])
        rw [hF] at HG
        rw [hx] at hc
        clear hF hx
        go_wp2_with fail
        clear hc
        go_loopw [0, 7] (fun c0 c7 wq => ∃ j : Nat, j ≤ 8 ∧ c7 = .int .i64 (56 - 8 * (j : Int)) ∧ Hid (GrewO w wq n₀ c0 (F ++ (be8 x).take j)) ∧ Hid (OwnQ wq w.heap.size s 8 ns)) (fun _ c7 _ => ((intOf c7) + 8).toNat)
        case atStart => exact ⟨0, by omega, rfl, (show GrewO _ _ _ _ (F ++ (be8 x).take 0) by simpa using HG.out), HNS.out⟩
        case round =>
          clear HG HNS
          obtain ⟨j, hj, rfl, HG, HNS⟩ := hrel
          by_cases hlj : j < 8
          case neg =>
            obtain rfl : j = 8 := by omega
            rw [take_all8, HFX.out] at HG
            go_wp2_with fail
            go_roundw
            case rel => exact ⟨k + 1, by omega, by go_num, HG.out, HNS.out⟩
            case measure => simp [intOf]; omega
          case pos =>
            have hd3 : decide ((0 : Int) ≤ 56 - 8 * (j : Int)) = true := by simp; omega
            have hd2 : decide (8 * (j : Int) ≤ 56) = true := by simp; omega
            have hws : IntKind.i64.wrap (56 - 8 * (j : Int) - 8) = 56 - 8 * (j : Int) - 8 := IntWalk.i64_in _ (by omega)
            have p0 : (0 : Int) ≤ 56 - 8 * (j : Int) := by omega
            have e0 : (56 - 8 * (j : Int)).toNat = 56 - 8 * j := by omega
            have hm0 : min (56 - 8 * j) 64 = 56 - 8 * j := by omega
            have x0 := HUX.out.1
            have hpl : (F ++ (be8 x).take j).length ≤ 100200 := by have := HF.out; simp [be8_len]; omega
            have HXM := Lib.hid (show (F ++ (be8 x).take j).length + 1 ≤ maxLen by unfold maxLen; omega)
            have HXB := Lib.hid (show ((F ++ (be8 x).take j).length + 1) * 1 ≤ 140737488355328 by omega)
            clear hpl
            go_wp2_with (at_builtin; (refine wpList_append_own _ rfl _ _ 30 rfl n₀ 5 i0 (.int .u8 0) 1 1 Tryd.underlying30 hi hz0 hz1 hz2 rfl (by decide) _ (F ++ (be8 x).take j).length ((F ++ (be8 x).take j).map (Value.int .u8)) rfl (HG.out.own.keep ((Below.refl _ _).alloc (Nat.le_refl _) _)) _ 1 1 [.int .u8 (x / 2 ^ (56 - 8 * j) % 256)] rfl rfl (fun j u hj => by cases j with | zero => simp at hj; subst hj; simp [go_sem] | succ j => simp at hj) (fun u hu => by simp at hu; subst hu; rfl) HXM.out HXB.out (HG.out.leA _) ?_); intro v4 w4 hown hgr hnil; have HG4 := Lib.hid (HG.out.snoc hown hgr); have HN4 := Lib.hid (HNS.out.others ((Others.below ((Below.refl _ _).alloc (Nat.le_refl _) _)).trans (Others.grown (HG.out.own.keep ((Below.refl _ _).alloc (Nat.le_refl _) _)) hgr))); clear hown hgr hnil)
            go_roundw
            case rel => exact ⟨j + 1, by omega, by go_num, by rw [← be8_snoc x j hlj rfl, ← List.append_assoc]; exact HG4.out, HN4.out⟩
            case measure => simp [intOf]; omega
end Go.Proofs.YtlbldpkgnonbpaaDoor
