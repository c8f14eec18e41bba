/- Numbers as bytes: schnorr.bytes, the reference's Eight; texts. -/
import Derived.Test.YtmcpfinnhgbcpaaDoorDigI
import Derived.Test.YtmcpfinnhgbcpaaDoorSchB
namespace Go.Proofs.YtmcpfinnhgbcpaaDoor
open Go Go.RowKit Sha
set_option linter.unusedSimpArgs false
set_option linter.unusedVariables false

theorem OwnB.mono {w : World} {n₀ n₁ : Nat} {v : Value} {xs : List Int} (h : OwnB w n₁ v xs) (hn : n₀ ≤ n₁) : OwnB w n₀ v xs := by
  refine ⟨h.1, ?_⟩
  rcases h.2 with h0 | ⟨g, cap, cur, e, b, r⟩
  · exact .inl h0
  · exact .inr ⟨g, cap, cur, e, Nat.le_trans hn b, r⟩

set_option maxHeartbeats 1000000 in
/-- A row of bytes behind a slice of the call's own; the row may be nil. -/
theorem run_append_sh (w : World) (ty : TypeId) {base : Nat} {v : Value} {xs bs : List Int} {a : Option Addr} {n c : Nat} (hown : OwnB w base v xs) (hs : ShI .u8 w a n bs) (hn : n ≤ 100000) (hx : xs.length ≤ 200000) (hb : base ≤ w.heap.size) :
    ∃ v' w', (Builtin.append_ #[27, 27] ty #[v, .slice a n c]).run Tryd.prog w = .ok v' w' ∧ OwnB w' base v' (xs ++ bs) ∧ w.grownBy w' v.ownBlock := by
  obtain ⟨i0, hi, hz0, hz1, hz2⟩ := info_parts (P := Tryd.prog) (e := 5) (z := .int .u8 0) (size := 1) (bytes := 1) (by kernel_rfl)
  have hl := hs.len
  cases a with
  | some ad =>
    obtain ⟨v', w', hr, h1, h2, -⟩ := run_append_own (P := Tryd.prog) w base 27 ty 5 i0 (.int .u8 0) 1 1 Tryd.underlying27 hi hz0 hz1 hz2 rfl (by decide) v xs.length (xs.map (Value.int .u8)) hown ad n c (bs.map (Value.int .u8)) (by rw [List.length_map, ← hl, Nat.mul_one]) hs.cells (fun u hu => by obtain ⟨x, -, rfl⟩ := List.mem_map.1 hu; rfl) (by unfold maxLen; omega) (by omega) hb
    refine ⟨v', w', hr, ?_, h2⟩
    unfold OwnB
    rw [List.length_append, List.map_append, ← hl]
    exact h1
  | none =>
    obtain ⟨rfl, rfl⟩ : n = 0 ∧ bs = [] := by
      rcases hs with h | ⟨s, o, h, -⟩
      · exact h
      · cases h
    refine ⟨v, w, ?_, by simpa using hown, World.grownBy.refl w _⟩
    rcases hown.2 with ⟨rfl, h0⟩ | ⟨g, cap, cur, rfl, -, -, hnc, -⟩
    · simp [Builtin.append_, run_underlying Tryd.underlying27, sizeOf, typeInfo, hi, hz1, Builtin.lenOf, storeCells, Builtin.firstCells, h0]
    · simp [Builtin.append_, run_underlying Tryd.underlying27, sizeOf, typeInfo, hi, hz1, Builtin.lenOf, storeCells, Builtin.firstCells, hnc]

section
variable {w : World} {ops : Array Oper} {rest : List Oper} {o : Oper} {act : Act} {Q : Exit → Act → World → Prop}
theorem wpL_append_sh (hgd : o.guard = none) (s x : Operand) (ho : o.op = .call { callee := .builtin .append, args := #[s, x], argTypes := #[27, 27] })
    (base : Nat) (v : Value) (xs bs : List Int) (a : Option Addr) (n c : Nat) (hv : act.eval s = v) (hx : act.eval x = .slice a n c) (hown : OwnB w base v xs) (hs : ShI .u8 w a n bs) (hn : n ≤ 100000) (hxs : xs.length ≤ 200000) (hb : base ≤ w.heap.size)
    (h : ∀ v' w', OwnB w' base v' (xs ++ bs) → w.grownBy w' v.ownBlock → wpList Tryd.prog ops Q rest (act.put o.dst v') w') : wpList Tryd.prog ops Q (o :: rest) act w := by
  refine wpList_plain hgd fun K hK => ?_
  obtain ⟨v', w', hr, h2, h3⟩ := run_append_sh w o.type hown hs hn hxs hb (c := c)
  unfold Oper.wp execOp
  simp only [ho, resolve, invoke, builtin, Sem.run_bind, Sem.run_pure, Result.andThen_ok, List.map_toArray, List.map_cons, List.map_nil, hv, hx, hr]
  exact hK _ _ (h v' w' h2 h3)
theorem wp_append_sh {K : Act → World → Prop} (s x : Operand) (ho : o.op = .call { callee := .builtin .append, args := #[s, x], argTypes := #[27, 27] })
    (base : Nat) (v : Value) (xs bs : List Int) (a : Option Addr) (n c : Nat) (hv : act.eval s = v) (hx : act.eval x = .slice a n c) (hown : OwnB w base v xs) (hs : ShI .u8 w a n bs) (hn : n ≤ 100000) (hxs : xs.length ≤ 200000) (hb : base ≤ w.heap.size)
    (h : ∀ v' w', OwnB w' base v' (xs ++ bs) → w.grownBy w' v.ownBlock → K (act.put o.dst v') w') : o.wp Tryd.prog act w K Q := by
  obtain ⟨v', w', hr, h2, h3⟩ := run_append_sh w o.type hown hs hn hxs hb (c := c)
  unfold Oper.wp execOp
  simp only [ho, resolve, invoke, builtin, Sem.run_bind, Sem.run_pure, Result.andThen_ok, List.map_toArray, List.map_cons, List.map_nil, hv, hx, hr]
  exact h v' w' h2 h3
end

theorem Grew.app {w0 w w' : World} {n₀ : Nat} {v v' : Value} {xs ys : List Int} (h : Grew w0 w n₀ v xs) (hown : OwnB w' n₀ v' ys) (hg : w.grownBy w' v.ownBlock) : Grew w0 w' n₀ v' ys :=
  ⟨hown, OwnB.grow h.bel h.own hg h.le, Nat.le_trans h.le hg.size⟩
theorem Grew.alloc {w0 w : World} {n₀ : Nat} {v : Value} {xs : List Int} (h : Grew w0 w n₀ v xs) (ob : Obj) : Grew w0 (w.alloc ob) n₀ v xs :=
  ⟨h.own.keep ((Below.refl _ _).alloc (Nat.le_refl _) ob), h.bel.alloc h.le ob, h.leA ob⟩
theorem Grew.keep {w0 w w' : World} {n₀ : Nat} {v : Value} {xs : List Int} (h : Grew w0 w n₀ v xs) (hb : Below w.heap.size w w') : Grew w0 w' n₀ v xs :=
  ⟨h.own.keep hb, h.bel.trans (hb.mono h.le), Nat.le_trans h.le hb.size⟩
theorem Grew.nil (w : World) : Grew w w w.heap.size (.slice none 0 0) [] := ⟨World.ownsRow_nil _ _ _ _, Below.refl _ _, Nat.le_refl _⟩

/-- Numbers, eight bytes each. -/
def flat8 (ns : List Int) : List Int := ns.flatMap be8
theorem flat8_len : ∀ ns : List Int, (flat8 ns).length = 8 * ns.length
  | [] => rfl
  | n :: ns => by rw [flat8, List.flatMap_cons, List.length_append, be8_len, ← flat8, flat8_len ns, List.length_cons]; omega
theorem flat8_snoc (ns : List Int) (k : Nat) (hk : k < ns.length) {x : Int} (hx : ns.getD k 0 = x) : flat8 (ns.take k) ++ be8 x = flat8 (ns.take (k + 1)) := by
  subst hx
  rw [List.take_succ_eq_append_getElem hk, flat8, flat8, List.flatMap_append]
  simp [hk]
theorem be8_snoc (x : Int) (j : Nat) (hj : j < 8) {y : Int} (hy : y = x / 2 ^ (56 - 8 * j) % 256) : (be8 x).take j ++ [y] = (be8 x).take (j + 1) := by
  subst hy
  rw [List.take_succ_eq_append_getElem (by rw [be8_len]; exact hj)]
  simp [be8]
theorem be8_bytes (n : Int) : ByteL (be8 n) := by
  intro x hx
  simp only [be8, List.mem_map] at hx
  obtain ⟨i, -, rfl⟩ := hx
  omega
theorem flat8_bytes (ns : List Int) : ByteL (flat8 ns) := by
  intro x hx
  obtain ⟨n, -, h⟩ := List.mem_flatMap.1 hx
  exact be8_bytes n x h
theorem ByteL.append {xs ys : List Int} (h : ByteL xs) (k : ByteL ys) : ByteL (xs ++ ys) := fun x hx => (List.mem_append.1 hx).elim (h x) (k x)
theorem take_all8 (x : Int) : (be8 x).take 8 = be8 x := List.take_of_length_le (by rw [be8_len]; exact Nat.le_refl _)

set_option maxRecDepth 100000 in
set_option maxHeartbeats 4000000 in
theorem sbytes_any {a : Option Addr} {n c : Nat} {ns : List Int} (w : World) (h : ShL w a n c ns) (hu : ∀ x, x ∈ ns → U64 x) (hn : n ≤ 20) :
    Calls Tryd.prog 43 #[.slice a n c] w fun e w' => ∃ v, e = .returned v ∧ OwnB w' w.heap.size v (flat8 ns) ∧ Below w.heap.size w w' := by
  obtain ⟨i0, hi, hz0, hz1, hz2⟩ := info_parts (P := Tryd.prog) (e := 5) (z := .int .u8 0) (size := 1) (bytes := 1) (by kernel_rfl)
  have HS := Lib.hid h
  have HL := Lib.hid h.len
  have HU := Lib.hid hu
  clear h hu
  go_enter Tryd.func43, Tryd.ntmps43
  go_wp2_with fail
  go_loopw [3, 9] (fun c3 c9 wr => ∃ k : Nat, k ≤ n ∧ c9 = .int .i64 k ∧ Hid (Grew w wr w.heap.size c3 (flat8 (ns.take k)))) (fun _ c9 _ => n - (intOf c9).toNat)
  case atStart => exact ⟨0, by omega, rfl, Grew.nil w⟩
  case round =>
    obtain ⟨k, hk, rfl, HG⟩ := hrel
    by_cases hlt : k < n
    case neg =>
      obtain rfl : k = n := by omega
      have hll := HL.out
      rw [hll, List.take_length] at HG
      clear hlt hll
      go_wp2_with fail
      go_ret
      exact ⟨_, rfl, HG.out.own, HG.out.bel⟩
    case pos =>
      have hdn : decide (k < n) = true := by simp; omega
      have hd : decide ((k : Int) < (n : Int)) = true := by simp; omega
      have k0 : (0 : Int) ≤ (k : Int) := by omega
      have hw1 : IntKind.i64.wrap ((k : Int) + 1) = (k : Int) + 1 := IntWalk.i64_in _ (by omega)
      obtain ⟨s, rfl, hc⟩ := (HS.out.keep HG.out.bel).at k hlt
      obtain ⟨x, hx⟩ : ∃ x, ns.getD k 0 = x := ⟨_, rfl⟩
      have HUX := Lib.hid (show U64 x from HU.out x (by rw [← hx, List.getD_eq_getElem?_getD, List.getElem?_eq_getElem (by have := HL.out; omega)]; exact List.getElem_mem _))
      have HFL := Lib.hid (show flat8 (ns.take k) ++ be8 x = flat8 (ns.take (k + 1)) from flat8_snoc ns k (by have := HL.out; omega) hx)
      obtain ⟨F, hF⟩ : ∃ F, flat8 (ns.take k) = F := ⟨_, rfl⟩
      have HF := Lib.hid (show F.length ≤ 200 by rw [← hF, flat8_len, List.length_take]; omega)
      rw [hF] at HG HFL
      rw [hx] at hc
      clear hF hx
      go_wp2_with fail
      go_loopw [3, 6] (fun c3 c6 wq => ∃ j : Nat, j ≤ 8 ∧ c6 = .int .i64 (56 - 8 * (j : Int)) ∧ Hid (Grew w wq w.heap.size c3 (F ++ (be8 x).take j))) (fun _ c6 _ => ((intOf c6) + 8).toNat)
      case atStart => exact ⟨0, by omega, rfl, Lib.hid (by simpa using HG.out)⟩
      case round =>
        clear HG
        obtain ⟨j, hj, rfl, HG⟩ := hrel
        by_cases hlj : j < 8
        case neg =>
          obtain rfl : j = 8 := by omega
          rw [take_all8, HFL.out] at HG
          go_wp2_with fail
          go_roundw
          case rel => exact ⟨k + 1, by omega, by go_num, HG⟩
          case measure => simp [intOf]; omega
        case pos =>
          have hd3 : decide ((0 : Int) ≤ 56 - 8 * (j : Int)) = true := by simp; omega
          have hd2 : decide (8 * (j : Int) ≤ 56) = true := by simp; omega
          have hws : IntKind.i64.wrap (56 - 8 * (j : Int) - 8) = 56 - 8 * (j : Int) - 8 := IntWalk.i64_in _ (by omega)
          have p0 : (0 : Int) ≤ 56 - 8 * (j : Int) := by omega
          have e0 : (56 - 8 * (j : Int)).toNat = 56 - 8 * j := by omega
          have hm0 : min (56 - 8 * j) 64 = 56 - 8 * j := by omega
          have x0 := HUX.out.1
          have hpl : (F ++ (be8 x).take j).length ≤ 300 := by have := HF.out; simp [be8_len]; omega
          have HXM := Lib.hid (show (F ++ (be8 x).take j).length + 1 ≤ maxLen by unfold maxLen; omega)
          have HXB := Lib.hid (show ((F ++ (be8 x).take j).length + 1) * 1 ≤ 140737488355328 by omega)
          clear hpl
          go_wp2_with (at_builtin; (refine wpList_append_own _ rfl _ _ 27 rfl w.heap.size 5 i0 (.int .u8 0) 1 1 Tryd.underlying27 hi hz0 hz1 hz2 rfl (by decide) _ (F ++ (be8 x).take j).length ((F ++ (be8 x).take j).map (Value.int .u8)) rfl (HG.out.own.keep ((Below.refl _ _).alloc (Nat.le_refl _) _)) _ 1 1 [.int .u8 (x / 2 ^ (56 - 8 * j) % 256)] rfl rfl (fun j u hj => by cases j with | zero => simp at hj; subst hj; simp [go_sem] | succ j => simp at hj) (fun u hu => by simp at hu; subst hu; rfl) HXM.out HXB.out (HG.out.leA _) ?_); intro v4 w4 hown hgr hnil; have HG4 := Lib.hid (HG.out.snoc hown hgr); clear hown hgr hnil)
          go_roundw
          case rel => exact ⟨j + 1, by omega, by go_num, by rw [← be8_snoc x j hlj rfl, ← List.append_assoc]; exact HG4.out⟩
          case measure => simp [intOf]; omega

set_option maxRecDepth 100000 in
set_option maxHeartbeats 4000000 in
theorem rEight_any {a : Option Addr} {n c : Nat} {bs : List Int} {x : Int} (w : World) (h : ShI .u8 w a n bs) (ux : U64 x) (hn : n ≤ 10000) :
    Calls Tryd.prog 80 #[.slice a n c, .int .u64 x] w fun e w' => ∃ v, e = .returned v ∧ OwnB w' w.heap.size v (bs ++ be8 x) ∧ Below w.heap.size w w' := by
  obtain ⟨i0, hi, hz0, hz1, hz2⟩ := info_parts (P := Tryd.prog) (e := 5) (z := .int .u8 0) (size := 1) (bytes := 1) (by kernel_rfl)
  have HS := Lib.hid h
  have HL := Lib.hid h.len
  have HUX := Lib.hid ux
  have HG0 := Lib.hid (show Grew w (w.alloc (.cells #[] 5)) w.heap.size (.slice (some ⟨w.heap.size, 0, none⟩) 0 0) [] from ⟨World.ownsRow_lit w #[] 0 (Nat.le_refl _) (by decide) rfl, (Below.refl _ _).alloc (Nat.le_refl _) _, by simp⟩)
  clear h ux
  go_enter Tryd.func80, Tryd.ntmps80
  go_wp2_with (at_builtin; refine wpL_append_sh rfl _ _ rfl w.heap.size _ [] bs a n c rfl rfl HG0.out.own (HS.out.keep HG0.out.bel) (by omega) (by simp) HG0.out.le ?_; intro v1 w1 hown hgr; have HG := Lib.hid (HG0.out.app hown hgr); clear hown hgr; simp only [Act.put, List.setIfInBounds_toArray, List.set_cons_zero, List.set_cons_succ])
  replace HG := Lib.hid (show Grew w w1 w.heap.size v1 bs from HG.out)
  clear HG0
  go_loopw [5, 6] (fun c5 c6 wr => ∃ j : Nat, j ≤ 8 ∧ c6 = .int .i64 j ∧ Hid (Grew w wr w.heap.size c5 (bs ++ (be8 x).take j))) (fun _ c6 _ => 8 - (intOf c6).toNat)
  case atStart => exact ⟨0, by omega, rfl, Lib.hid (by simpa using HG.out)⟩
  case round =>
    clear HG
    obtain ⟨j, hj, rfl, HG⟩ := hrel
    by_cases hlt : j < 8
    case neg =>
      obtain rfl : j = 8 := by omega
      rw [take_all8] at HG
      simp only [Int.cast_ofNat_Int]
      go_wp2_with fail
      go_ret
      exact ⟨_, rfl, HG.out.own, HG.out.bel⟩
    case pos =>
      have hd : decide ((j : Int) < 8) = true := by simp; omega
      have j0 : (0 : Int) ≤ (j : Int) := by omega
      have p0 : (0 : Int) ≤ 56 - 8 * (j : Int) := by omega
      have e0 : (56 - 8 * (j : Int)).toNat = 56 - 8 * j := by omega
      have hm0 : min (56 - 8 * j) 64 = 56 - 8 * j := by omega
      have hw1 : IntKind.i64.wrap ((j : Int) + 1) = (j : Int) + 1 := IntWalk.i64_in _ (by omega)
      have hw2 : IntKind.i64.wrap (8 * (j : Int)) = 8 * (j : Int) := IntWalk.i64_in _ (by omega)
      have hw3 : IntKind.i64.wrap (56 - 8 * (j : Int)) = 56 - 8 * (j : Int) := IntWalk.i64_in _ (by omega)
      have x0 := HUX.out.1
      have hpl : (bs ++ (be8 x).take j).length ≤ 20000 := by have := HL.out; simp [be8_len]; omega
      have HXM := Lib.hid (show (bs ++ (be8 x).take j).length + 1 ≤ maxLen by unfold maxLen; omega)
      have HXB := Lib.hid (show ((bs ++ (be8 x).take j).length + 1) * 1 ≤ 140737488355328 by omega)
      clear hpl
      go_wp2_with (at_builtin; (refine wpList_append_own _ rfl _ _ 27 rfl w.heap.size 5 i0 (.int .u8 0) 1 1 Tryd.underlying27 hi hz0 hz1 hz2 rfl (by decide) _ (bs ++ (be8 x).take j).length ((bs ++ (be8 x).take j).map (Value.int .u8)) rfl (HG.out.own.keep ((Below.refl _ _).alloc (Nat.le_refl _) _)) _ 1 1 [.int .u8 (x / 2 ^ (56 - 8 * j) % 256)] rfl rfl (fun j u hj => by cases j with | zero => simp at hj; subst hj; simp [go_sem] | succ j => simp at hj) (fun u hu => by simp at hu; subst hu; rfl) HXM.out HXB.out (HG.out.leA _) ?_); intro v4 w4 hown hgr hnil; have HG4 := Lib.hid (HG.out.snoc hown hgr); clear hown hgr hnil)
      go_roundw
      case rel => exact ⟨j + 1, by omega, by go_num, by rw [← be8_snoc x j hlt rfl, ← List.append_assoc]; exact HG4.out⟩
      case measure => simp [intOf]; omega
end Go.Proofs.YtmcpfinnhgbcpaaDoor
