/- slices.Clone of bytes; digest.padded. -/
import Derived.Test.YtmcpfinnhgbcpaaDoorDigZ
namespace Go.Proofs.YtmcpfinnhgbcpaaDoor
open Go Go.RowKit Sha
set_option linter.unusedSimpArgs false
set_option linter.unusedVariables false

/-- A slice of bytes of the call's own. -/
def OwnB (w : World) (n₀ : Nat) (v : Value) (xs : List Int) : Prop := w.ownsRow n₀ 5 1 v xs.length (xs.map (Value.int .u8))
theorem OwnB.keep {w w' : World} {n₀ : Nat} {v : Value} {xs : List Int} (h : OwnB w n₀ v xs) (hb : Below w.heap.size w w') : OwnB w' n₀ v xs :=
  World.ownsRow.kept (row := none) h ⟨hb.os, hb.tape, hb.output, hb.size, fun k hk _ => hb.block k hk⟩ (by
    by_cases e : v.ownBlock = none
    · exact .inl e
    · exact .inr e)
theorem OwnB.some {w : World} {n₀ : Nat} {v : Value} {xs : List Int} (h : OwnB w n₀ v xs) (h1 : 1 ≤ xs.length) : ∃ g cap, v = .slice (some ⟨g, 0, none⟩) xs.length cap ∧ n₀ ≤ g ∧ g < w.heap.size := by
  rcases h.2 with ⟨-, h0⟩ | ⟨g, cap, cur, rfl, b, c, d⟩
  · omega
  · exact ⟨g, cap, rfl, World.ownsRow.lt h g rfl⟩
theorem OwnB.grow {w0 w w' : World} {n₀ : Nat} {v : Value} {xs : List Int} (hb : Below n₀ w0 w) (h : OwnB w n₀ v xs) (hg : w.grownBy w' v.ownBlock) (hn : n₀ ≤ w.heap.size) : Below n₀ w0 w' :=
  hb.grown hg hn (fun k hk => (World.ownsRow.lt h k hk).1)
theorem OwnB.shi {w : World} {n₀ : Nat} {v : Value} {xs : List Int} (h : OwnB w n₀ v xs) : ∃ a c, v = .slice a xs.length c ∧ ShI .u8 w a xs.length xs := ShI.of_owned h

section
variable {P : Program} {w : World} {ops : Array Oper} {rest : List Oper} {o : Oper} {a : Act} {Q : Exit → Act → World → Prop}
theorem wpL_append_zeros (hgd : o.guard = none) (s x : Operand) (t it : TypeId) (ho : o.op = .call { callee := .builtin .append, args := #[s, x], argTypes := #[t, it] })
    (base : Nat) (e : TypeId) (i : TypeInfo) (ht : P.underlying t = some (.slice e)) (hit : P.underlying it = some (.int .i64)) (hi : P.info? e = some i) (hz : i.zero = some (.int .u8 0)) (hsize : i.size = 1) (hby : i.bytes = 1)
    (g n cap m : Nat) (xs : List Value) (hs : a.eval s = .slice (some ⟨g, 0, none⟩) n cap) (hx : a.eval x = .int .i64 m) (hown : w.ownsRow base e 1 (.slice (some ⟨g, 0, none⟩) n cap) n xs) (hm : n + m ≤ 1000000) (hbase : base ≤ w.heap.size)
    (h : ∀ v' w', w'.ownsRow base e 1 v' (n + m) (xs ++ List.replicate m (Value.int .u8 0)) → w.grownBy w' (some g) → wpList P ops Q rest (a.put o.dst v') w') : wpList P ops Q (o :: rest) a w := by
  refine wpList_plain hgd fun K hK => ?_
  obtain ⟨v', w', hr, h2, h3⟩ := run_append_zeros (P := P) w base t it o.type e i ht hit hi hz hsize hby g n cap xs hown m hm hbase
  unfold Oper.wp execOp
  simp only [ho, resolve, invoke, builtin, Sem.run_bind, Sem.run_pure, Result.andThen_ok, List.map_toArray, List.map_cons, List.map_nil, hs, hx, hr]
  exact hK _ _ (h v' w' h2 h3)
end

set_option maxRecDepth 100000 in
set_option maxHeartbeats 2000000 in
theorem bclone_any {a : Option Addr} {n c : Nat} {xs : List Int} (w : World) (h : ShI .u8 w a n xs) (hn : n ≤ 100000) :
    Calls Tryd.prog 92 #[.slice a n c] w fun e w' => ∃ v, e = .returned v ∧ OwnB w' w.heap.size v xs ∧ Below w.heap.size w w' := by
  obtain ⟨i0, hi, hz0, hz1, hz2⟩ := info_parts (P := Tryd.prog) (e := 5) (z := .int .u8 0) (size := 1) (bytes := 1) (by kernel_rfl)
  have HS := Lib.hid h
  have hl := h.len
  have qT : ∀ (w : World) (a : Option Addr) (n c n' c' : Nat), (binOp .eql 27 (.slice a n c) (.slice none n' c')).run Tryd.prog w = .ok (.bool a.isNone) w := fun w a n c n' c' => Lib.run_eql_slice_nil w _ _ a n c n' c' Tryd.underlying27
  cases a with
  | none =>
    have hx : xs = [] := by
      rcases h with ⟨-, h⟩ | ⟨s, o, h0, -⟩
      · exact h
      · cases h0
    subst hx
    go_enter Tryd.func92, Tryd.ntmps92
    go_wp2_with fail
    go_ret
    exact ⟨_, rfl, World.ownsRow_nil _ _ _ _, Below.refl _ _⟩
  | some ad =>
    have HL := Lib.hid (show (xs.map (Value.int IntKind.u8)).length = n * 1 by rw [List.length_map, ← hl, Nat.mul_one])
    have HLN := Lib.hid hl
    clear hl h
    go_enter Tryd.func92, Tryd.ntmps92
    go_wp2_with (at_builtin; refine wpList_append_own _ rfl _ _ 27 rfl w.heap.size 5 i0 (.int .u8 0) 1 1 Tryd.underlying27 hi hz0 hz1 hz2 rfl (by decide) _ 0 [] rfl (World.ownsRow_lit w #[] 0 (Nat.le_refl _) (by decide) rfl) _ n c (xs.map (Value.int IntKind.u8)) rfl HL.out (HS.out.keep ((Below.refl _ _).alloc (Nat.le_refl _) _)).cells (fun u hu => by obtain ⟨x, -, rfl⟩ := List.mem_map.1 hu; rfl) (by unfold maxLen; omega) (by omega) (by simp) ?_; intro v' w1 hown hgr hnil; have HOWN := Lib.hid hown; have HGR := Lib.hid hgr; clear hown hgr hnil)
    go_ret
    have hb := Below.grown ((Below.refl w.heap.size w).alloc (Nat.le_refl _) _) HGR.out (by simp) (fun j hj => by have e : Option.some w.heap.size = Option.some j := hj; injection e with e; omega)
    refine ⟨_, rfl, ?_, hb⟩
    have h9 := HOWN.out
    rw [Nat.zero_add, List.nil_append] at h9
    unfold OwnB
    rw [← HLN.out]
    exact h9

/-- One byte is appended. -/
theorem OwnB.snoc {w' : World} {n₀ : Nat} {v' : Value} {xs : List Int} {x : Int} (h : w'.ownsRow n₀ 5 1 v' (xs.length + 1) (xs.map (Value.int .u8) ++ [.int .u8 x])) : OwnB w' n₀ v' (xs ++ [x]) := by
  unfold OwnB
  simpa using h
theorem OwnB.zeros {w' : World} {n₀ m : Nat} {v' : Value} {xs : List Int} (h : w'.ownsRow n₀ 5 1 v' (xs.length + m) (xs.map (Value.int .u8) ++ List.replicate m (.int .u8 0))) : OwnB w' n₀ v' (xs ++ List.replicate m 0) := by
  unfold OwnB
  simpa using h

/-- What follows one byte appended: the new slice, what lay below, the size. -/
structure Grew (w0 w : World) (n₀ : Nat) (v : Value) (xs : List Int) : Prop where
  own : OwnB w n₀ v xs
  bel : Below n₀ w0 w
  le : n₀ ≤ w.heap.size
theorem Grew.first {w w' : World} {n : Nat} {v' : Value} {xs : List Int} {ob : Obj} (hn : n = xs.length) (hown : w'.ownsRow w.heap.size 5 1 v' (0 + n) ([] ++ xs.map (Value.int .u8))) (hg : (w.alloc ob).grownBy w' (Option.some w.heap.size)) : Grew w w' w.heap.size v' xs :=
  ⟨by unfold OwnB; subst hn; simpa using hown, Below.grown ((Below.refl _ _).alloc (Nat.le_refl _) ob) hg (by simp) (fun k hk => by injection hk with hk; omega), Nat.le_trans (by simp) hg.size⟩
theorem Grew.leA {w0 w : World} {n₀ : Nat} {v : Value} {xs : List Int} (h : Grew w0 w n₀ v xs) (ob : Obj) : n₀ ≤ (w.alloc ob).heap.size := Nat.le_trans h.le (by simp)
theorem Grew.snoc {w0 w w' : World} {n₀ : Nat} {v v' : Value} {xs : List Int} {x : Int} {ob : Obj} (h : Grew w0 w n₀ v xs) (hown : w'.ownsRow n₀ 5 1 v' (xs.length + 1) (xs.map (Value.int .u8) ++ [.int .u8 x])) (hg : (w.alloc ob).grownBy w' v.ownBlock) : Grew w0 w' n₀ v' (xs ++ [x]) :=
  have hb := OwnB.grow (h.bel.alloc h.le ob) (h.own.keep ((Below.refl _ _).alloc (Nat.le_refl _) ob)) hg (Nat.le_trans h.le (by simp))
  ⟨OwnB.snoc hown, hb, Nat.le_trans h.le (Nat.le_trans (by simp) hg.size)⟩
theorem Grew.zeros {w0 w w' : World} {n₀ m : Nat} {v v' : Value} {xs : List Int} {g : Nat} (h : Grew w0 w n₀ v xs) (hown : w'.ownsRow n₀ 5 1 v' (xs.length + m) (xs.map (Value.int .u8) ++ List.replicate m (.int .u8 0))) (hg : w.grownBy w' (Option.some g)) (hv : v.ownBlock = Option.some g) : Grew w0 w' n₀ v' (xs ++ List.replicate m 0) :=
  ⟨OwnB.zeros hown, OwnB.grow h.bel h.own (hv ▸ hg) h.le, Nat.le_trans h.le hg.size⟩

/-- The padded bytes, so far as they are laid. -/
def padN (xs : List Int) (n k : Nat) : List Int := xs ++ [128] ++ List.replicate (zerosN n) 0 ++ (be8 (n * 8)).take k
theorem padN_zero (xs : List Int) (n : Nat) : padN xs n 0 = xs ++ [128] ++ List.replicate (zerosN n) 0 := by simp [padN]
theorem padN_len (xs : List Int) (n k : Nat) : (padN xs n k).length = xs.length + 1 + zerosN n + min k 8 := by simp [padN, be8_len]; omega
theorem padN_all (xs : List Int) : padN xs xs.length 8 = padS xs := by
  rw [padN, padS, List.take_of_length_le (by rw [be8_len]; exact Nat.le_refl _)]; simp
theorem padN_succ (xs : List Int) (n k : Nat) (hk : k < 8) {x : Int} (hx : x = (n : Int) * 8 / 2 ^ (56 - 8 * k) % 256) : padN xs n k ++ [x] = padN xs n (k + 1) := by
  subst hx
  rw [padN, padN, List.take_succ_eq_append_getElem (by rw [be8_len]; exact hk), List.append_assoc _ _ [_]]
  simp [be8]

set_option maxRecDepth 100000 in
set_option maxHeartbeats 4000000 in
theorem dpadded_any {a : Option Addr} {n c : Nat} {xs : List Int} (w : World) (h : ShI .u8 w a n xs) (hn : n ≤ 100000) :
    Calls Tryd.prog 86 #[.slice a n c] w fun e w' => ∃ v, e = .returned v ∧ OwnB w' w.heap.size v (padS xs) ∧ Below w.heap.size w w' := by
  obtain ⟨i0, hi, hz0, hz1, hz2⟩ := info_parts (P := Tryd.prog) (e := 5) (z := .int .u8 0) (size := 1) (bytes := 1) (by kernel_rfl)
  have HS := Lib.hid h
  have HL := Lib.hid h.len
  clear h
  go_enter Tryd.func86, Tryd.ntmps86
  go_wp2_with fail
  refine (bclone_any _ HS.out hn).mono ?_
  rintro e w1 ⟨v1, rfl, O1, B1⟩
  have HG := Lib.hid (show Grew w w1 w.heap.size v1 xs from ⟨O1, B1, B1.size⟩)
  clear O1 B1
  have HZN := Lib.hid (show -(((n : Int) + 9) % 64) % 64 = ((zerosN n : Nat) : Int) by unfold zerosN; omega)
  have HZM := Lib.hid (show (64 - ((n : Int) + 9) % 64) % 64 = ((zerosN n : Nat) : Int) by unfold zerosN; omega)
  have HMN := Lib.hid (show zerosN n < 64 by unfold zerosN; omega)
  have HAL := Lib.hid (show ∀ ob, w.heap.size ≤ (w1.alloc ob).heap.size from fun ob => Nat.le_trans HG.out.le (by simp))
  have HXM := Lib.hid (show xs.length + 1 ≤ maxLen by have := HL.out; unfold maxLen; omega)
  have HXB := Lib.hid (show (xs.length + 1) * 1 ≤ 140737488355328 by have := HL.out; omega)
  have HZB := Lib.hid (show (xs ++ [(128 : Int)]).length + zerosN n ≤ 1000000 by have := HL.out; have := HMN.out; simp; omega)
  go_wp2_with (first
    | (at_builtin; refine wpList_append_own _ rfl _ _ 27 rfl w.heap.size 5 i0 (.int .u8 0) 1 1 Tryd.underlying27 hi hz0 hz1 hz2 rfl (by decide) _ xs.length (xs.map (Value.int .u8)) rfl (HG.out.own.keep ((Below.refl _ _).alloc (Nat.le_refl _) _)) _ 1 1 [.int .u8 128] rfl rfl (fun j u hj => by cases j with | zero => simp at hj; subst hj; simp [go_sem] | succ j => simp at hj) (fun u hu => by simp at hu; subst hu; rfl) HXM.out HXB.out (HAL.out _) ?_; intro v2 w2 hown hgr hnil; have HG2 := Lib.hid (HG.out.snoc hown hgr); clear hown hgr hnil)
    | (at_builtin; obtain ⟨g, cap, hv, -, -⟩ := HG2.out.own.some (by simp); subst hv; (refine wpL_append_zeros rfl _ _ 27 3 rfl w.heap.size 5 i0 Tryd.underlying27 Tryd.underlying3 hi hz0 hz1 hz2 g _ cap (zerosN n) _ rfl (congrArg (Value.int .i64) HZM.out) HG2.out.own HZB.out HG2.out.le ?_); intro v3 w3 hown hgr; have HG3 := Lib.hid (HG2.out.zeros hown hgr rfl); clear hown hgr)
    | (at_builtin; obtain ⟨g, cap, hv, -, -⟩ := HG2.out.own.some (by simp); subst hv; refine wpL_append_zeros rfl _ _ 27 3 rfl w.heap.size 5 i0 Tryd.underlying27 Tryd.underlying3 hi hz0 hz1 hz2 g _ cap (zerosN n) _ rfl (congrArg (Value.int .i64) HZN.out) HG2.out.own HZB.out HG2.out.le ?_; intro v3 w3 hown hgr; have HG3 := Lib.hid (HG2.out.zeros hown hgr rfl); clear hown hgr))
  go_loopw [4, 5] (fun c4 c5 wr => ∃ k : Nat, k ≤ 8 ∧ c5 = .int .i64 (56 - 8 * (k : Int)) ∧ Hid (Grew w wr w.heap.size c4 (padN xs n k))) (fun _ c5 _ => ((intOf c5) + 8).toNat)
  case atStart => exact ⟨0, by omega, rfl, by rw [padN_zero]; exact HG3.out⟩
  case round =>
    clear HG HG2 HG3 HZN HZM HMN HAL HXM HXB HZB
    obtain ⟨k, hk, rfl, HG⟩ := hrel
    by_cases hlt : k < 8
    case neg =>
      obtain rfl : k = 8 := by omega
      rw [HL.out, padN_all] at HG
      go_wp2_with fail
      go_ret
      exact ⟨_, rfl, HG.out.own, HG.out.bel⟩
    case pos =>
      have hd : decide ((0 : Int) ≤ 56 - 8 * (k : Int)) = true := by simp; omega
      have hd2 : decide (8 * (k : Int) ≤ 56) = true := by simp; omega
      have hws : IntKind.i64.wrap (56 - 8 * (k : Int) - 8) = 56 - 8 * (k : Int) - 8 := IntWalk.i64_in _ (by omega)
      have hpl : (padN xs n k).length ≤ 200000 := by rw [padN_len]; have := HL.out; have : zerosN n < 64 := by unfold zerosN; omega
                                                     omega
      have HAL := Lib.hid (show ∀ ob, w.heap.size ≤ (wr.alloc ob).heap.size from fun ob => Nat.le_trans HG.out.le (by simp))
      have HXM := Lib.hid (show (padN xs n k).length + 1 ≤ maxLen by unfold maxLen; omega)
      have HXB := Lib.hid (show ((padN xs n k).length + 1) * 1 ≤ 140737488355328 by omega)
      clear hpl
      have p0 : (0 : Int) ≤ 56 - 8 * (k : Int) := by omega
      have e0 : (56 - 8 * (k : Int)).toNat = 56 - 8 * k := by omega
      have hm0 : min (56 - 8 * k) 64 = 56 - 8 * k := by omega
      have hwn : IntKind.u64.wrap (n : Int) = n := IntWalk.u64_in _ (by omega)
      have hwm : IntKind.u64.wrap ((n : Int) * 8) = n * 8 := IntWalk.u64_in _ (by omega)
      go_wp2_with (at_builtin; (refine wpList_append_own _ rfl _ _ 27 rfl w.heap.size 5 i0 (.int .u8 0) 1 1 Tryd.underlying27 hi hz0 hz1 hz2 rfl (by decide) _ (padN xs n k).length ((padN xs n k).map (Value.int .u8)) rfl (HG.out.own.keep ((Below.refl _ _).alloc (Nat.le_refl _) _)) _ 1 1 [.int .u8 ((n : Int) * 8 / 2 ^ (56 - 8 * k) % 256)] rfl rfl (fun j u hj => by cases j with | zero => simp at hj; subst hj; simp [go_sem] | succ j => simp at hj) (fun u hu => by simp at hu; subst hu; rfl) HXM.out HXB.out (HAL.out _) ?_); intro v4 w4 hown hgr hnil; have HG4 := Lib.hid (HG.out.snoc hown hgr); clear hown hgr hnil)
      go_roundw
      case rel => exact ⟨k + 1, by omega, by go_num, by rw [← padN_succ xs n k hlt rfl]; exact HG4.out⟩
      case measure => simp [intOf]; omega
end Go.Proofs.YtmcpfinnhgbcpaaDoor
