/- Folded: SigA, SigB, SigC. -/
import Derived.Test.YtmcpfinnhgbcpaaDoorDg2
import Derived.Test.YtmcpfinnhgbcpaaDoorSchB
import Derived.Test.YtmcpfinnhgbcpaaDoorRfs
/- Numbers as bytes: schnorr.bytes, the reference's Eight; texts. -/
namespace Go.Proofs.YtmcpfinnhgbcpaaDoor
open Go Go.RowKit Sha
set_option linter.unusedSimpArgs false
set_option linter.unusedVariables false

theorem OwnB.mono {w : World} {n₀ n₁ : Nat} {v : Value} {xs : List Int} (h : OwnB w n₁ v xs) (hn : n₀ ≤ n₁) : OwnB w n₀ v xs := by
  refine ⟨h.1, ?_⟩
  rcases h.2 with h0 | ⟨g, cap, cur, e, b, r⟩
  · exact .inl h0
  · exact .inr ⟨g, cap, cur, e, Nat.le_trans hn b, r⟩

set_option maxHeartbeats 1000000 in
/-- A row of bytes behind a slice of the call's own; the row may be nil. -/
theorem run_append_sh (w : World) (ty : TypeId) {base : Nat} {v : Value} {xs bs : List Int} {a : Option Addr} {n c : Nat} (hown : OwnB w base v xs) (hs : ShI .u8 w a n bs) (hn : n ≤ 100000) (hx : xs.length ≤ 200000) (hb : base ≤ w.heap.size) :
    ∃ v' w', (Builtin.append_ #[27, 27] ty #[v, .slice a n c]).run Tryd.prog w = .ok v' w' ∧ OwnB w' base v' (xs ++ bs) ∧ w.grownBy w' v.ownBlock := by
  obtain ⟨i0, hi, hz0, hz1, hz2⟩ := info_parts (P := Tryd.prog) (e := 5) (z := .int .u8 0) (size := 1) (bytes := 1) (by kernel_rfl)
  have hl := hs.len
  cases a with
  | some ad =>
    obtain ⟨v', w', hr, h1, h2, -⟩ := run_append_own (P := Tryd.prog) w base 27 ty 5 i0 (.int .u8 0) 1 1 Tryd.underlying27 hi hz0 hz1 hz2 rfl (by decide) v xs.length (xs.map (Value.int .u8)) hown ad n c (bs.map (Value.int .u8)) (by rw [List.length_map, ← hl, Nat.mul_one]) hs.cells (fun u hu => by obtain ⟨x, -, rfl⟩ := List.mem_map.1 hu; rfl) (by unfold maxLen; omega) (by omega) hb
    refine ⟨v', w', hr, ?_, h2⟩
    unfold OwnB
    rw [List.length_append, List.map_append, ← hl]
    exact h1
  | none =>
    obtain ⟨rfl, rfl⟩ : n = 0 ∧ bs = [] := by
      rcases hs with h | ⟨s, o, h, -⟩
      · exact h
      · cases h
    refine ⟨v, w, ?_, by simpa using hown, World.grownBy.refl w _⟩
    rcases hown.2 with ⟨rfl, h0⟩ | ⟨g, cap, cur, rfl, -, -, hnc, -⟩
    · simp [Builtin.append_, run_underlying Tryd.underlying27, sizeOf, typeInfo, hi, hz1, Builtin.lenOf, storeCells, Builtin.firstCells, h0]
    · simp [Builtin.append_, run_underlying Tryd.underlying27, sizeOf, typeInfo, hi, hz1, Builtin.lenOf, storeCells, Builtin.firstCells, hnc]

section
variable {w : World} {ops : Array Oper} {rest : List Oper} {o : Oper} {act : Act} {Q : Exit → Act → World → Prop}
theorem wpL_append_sh (hgd : o.guard = none) (s x : Operand) (ho : o.op = .call { callee := .builtin .append, args := #[s, x], argTypes := #[27, 27] })
    (base : Nat) (v : Value) (xs bs : List Int) (a : Option Addr) (n c : Nat) (hv : act.eval s = v) (hx : act.eval x = .slice a n c) (hown : OwnB w base v xs) (hs : ShI .u8 w a n bs) (hn : n ≤ 100000) (hxs : xs.length ≤ 200000) (hb : base ≤ w.heap.size)
    (h : ∀ v' w', OwnB w' base v' (xs ++ bs) → w.grownBy w' v.ownBlock → wpList Tryd.prog ops Q rest (act.put o.dst v') w') : wpList Tryd.prog ops Q (o :: rest) act w := by
  refine wpList_plain hgd fun K hK => ?_
  obtain ⟨v', w', hr, h2, h3⟩ := run_append_sh w o.type hown hs hn hxs hb (c := c)
  unfold Oper.wp execOp
  simp only [ho, resolve, invoke, builtin, Sem.run_bind, Sem.run_pure, Result.andThen_ok, List.map_toArray, List.map_cons, List.map_nil, hv, hx, hr]
  exact hK _ _ (h v' w' h2 h3)
theorem wp_append_sh {K : Act → World → Prop} (s x : Operand) (ho : o.op = .call { callee := .builtin .append, args := #[s, x], argTypes := #[27, 27] })
    (base : Nat) (v : Value) (xs bs : List Int) (a : Option Addr) (n c : Nat) (hv : act.eval s = v) (hx : act.eval x = .slice a n c) (hown : OwnB w base v xs) (hs : ShI .u8 w a n bs) (hn : n ≤ 100000) (hxs : xs.length ≤ 200000) (hb : base ≤ w.heap.size)
    (h : ∀ v' w', OwnB w' base v' (xs ++ bs) → w.grownBy w' v.ownBlock → K (act.put o.dst v') w') : o.wp Tryd.prog act w K Q := by
  obtain ⟨v', w', hr, h2, h3⟩ := run_append_sh w o.type hown hs hn hxs hb (c := c)
  unfold Oper.wp execOp
  simp only [ho, resolve, invoke, builtin, Sem.run_bind, Sem.run_pure, Result.andThen_ok, List.map_toArray, List.map_cons, List.map_nil, hv, hx, hr]
  exact h v' w' h2 h3
end

theorem Grew.app {w0 w w' : World} {n₀ : Nat} {v v' : Value} {xs ys : List Int} (h : Grew w0 w n₀ v xs) (hown : OwnB w' n₀ v' ys) (hg : w.grownBy w' v.ownBlock) : Grew w0 w' n₀ v' ys :=
  ⟨hown, OwnB.grow h.bel h.own hg h.le, Nat.le_trans h.le hg.size⟩
theorem Grew.alloc {w0 w : World} {n₀ : Nat} {v : Value} {xs : List Int} (h : Grew w0 w n₀ v xs) (ob : Obj) : Grew w0 (w.alloc ob) n₀ v xs :=
  ⟨h.own.keep ((Below.refl _ _).alloc (Nat.le_refl _) ob), h.bel.alloc h.le ob, h.leA ob⟩
theorem Grew.keep {w0 w w' : World} {n₀ : Nat} {v : Value} {xs : List Int} (h : Grew w0 w n₀ v xs) (hb : Below w.heap.size w w') : Grew w0 w' n₀ v xs :=
  ⟨h.own.keep hb, h.bel.trans (hb.mono h.le), Nat.le_trans h.le hb.size⟩
theorem Grew.nil (w : World) : Grew w w w.heap.size (.slice none 0 0) [] := ⟨World.ownsRow_nil _ _ _ _, Below.refl _ _, Nat.le_refl _⟩

/-- Numbers, eight bytes each. -/
def flat8 (ns : List Int) : List Int := ns.flatMap be8
theorem flat8_len : ∀ ns : List Int, (flat8 ns).length = 8 * ns.length
  | [] => rfl
  | n :: ns => by rw [flat8, List.flatMap_cons, List.length_append, be8_len, ← flat8, flat8_len ns, List.length_cons]; omega
theorem flat8_snoc (ns : List Int) (k : Nat) (hk : k < ns.length) {x : Int} (hx : ns.getD k 0 = x) : flat8 (ns.take k) ++ be8 x = flat8 (ns.take (k + 1)) := by
  subst hx
  rw [List.take_succ_eq_append_getElem hk, flat8, flat8, List.flatMap_append]
  simp [hk]
theorem be8_snoc (x : Int) (j : Nat) (hj : j < 8) {y : Int} (hy : y = x / 2 ^ (56 - 8 * j) % 256) : (be8 x).take j ++ [y] = (be8 x).take (j + 1) := by
  subst hy
  rw [List.take_succ_eq_append_getElem (by rw [be8_len]; exact hj)]
  simp [be8]
theorem be8_bytes (n : Int) : ByteL (be8 n) := by
  intro x hx
  simp only [be8, List.mem_map] at hx
  obtain ⟨i, -, rfl⟩ := hx
  omega
theorem flat8_bytes (ns : List Int) : ByteL (flat8 ns) := by
  intro x hx
  obtain ⟨n, -, h⟩ := List.mem_flatMap.1 hx
  exact be8_bytes n x h
theorem ByteL.append {xs ys : List Int} (h : ByteL xs) (k : ByteL ys) : ByteL (xs ++ ys) := fun x hx => (List.mem_append.1 hx).elim (h x) (k x)
theorem take_all8 (x : Int) : (be8 x).take 8 = be8 x := List.take_of_length_le (by rw [be8_len]; exact Nat.le_refl _)

set_option maxRecDepth 100000 in
set_option maxHeartbeats 4000000 in
theorem sbytes_any {a : Option Addr} {n c : Nat} {ns : List Int} (w : World) (h : ShL w a n c ns) (hu : ∀ x, x ∈ ns → U64 x) (hn : n ≤ 20) :
    Calls Tryd.prog 43 #[.slice a n c] w fun e w' => ∃ v, e = .returned v ∧ OwnB w' w.heap.size v (flat8 ns) ∧ Below w.heap.size w w' := by
  obtain ⟨i0, hi, hz0, hz1, hz2⟩ := info_parts (P := Tryd.prog) (e := 5) (z := .int .u8 0) (size := 1) (bytes := 1) (by kernel_rfl)
  have HS := Lib.hid h
  have HL := Lib.hid h.len
  have HU := Lib.hid hu
  clear h hu
  go_enter Tryd.func43, Tryd.ntmps43
  go_wp2_with fail
  go_loopw [3, 9] (fun c3 c9 wr => ∃ k : Nat, k ≤ n ∧ c9 = .int .i64 k ∧ Hid (Grew w wr w.heap.size c3 (flat8 (ns.take k)))) (fun _ c9 _ => n - (intOf c9).toNat)
  case atStart => exact ⟨0, by omega, rfl, Grew.nil w⟩
  case round =>
    obtain ⟨k, hk, rfl, HG⟩ := hrel
    by_cases hlt : k < n
    case neg =>
      obtain rfl : k = n := by omega
      have hll := HL.out
      rw [hll, List.take_length] at HG
      clear hlt hll
      go_wp2_with fail
      go_ret
      exact ⟨_, rfl, HG.out.own, HG.out.bel⟩
    case pos =>
      have hdn : decide (k < n) = true := by simp; omega
      have hd : decide ((k : Int) < (n : Int)) = true := by simp; omega
      have k0 : (0 : Int) ≤ (k : Int) := by omega
      have hw1 : IntKind.i64.wrap ((k : Int) + 1) = (k : Int) + 1 := IntWalk.i64_in _ (by omega)
      obtain ⟨s, rfl, hc⟩ := (HS.out.keep HG.out.bel).at k hlt
      obtain ⟨x, hx⟩ : ∃ x, ns.getD k 0 = x := ⟨_, rfl⟩
      have HUX := Lib.hid (show U64 x from HU.out x (by rw [← hx, List.getD_eq_getElem?_getD, List.getElem?_eq_getElem (by have := HL.out; omega)]; exact List.getElem_mem _))
      have HFL := Lib.hid (show flat8 (ns.take k) ++ be8 x = flat8 (ns.take (k + 1)) from flat8_snoc ns k (by have := HL.out; omega) hx)
      obtain ⟨F, hF⟩ : ∃ F, flat8 (ns.take k) = F := ⟨_, rfl⟩
      have HF := Lib.hid (show F.length ≤ 200 by rw [← hF, flat8_len, List.length_take]; omega)
      rw [hF] at HG HFL
      rw [hx] at hc
      clear hF hx
      go_wp2_with fail
      go_loopw [3, 6] (fun c3 c6 wq => ∃ j : Nat, j ≤ 8 ∧ c6 = .int .i64 (56 - 8 * (j : Int)) ∧ Hid (Grew w wq w.heap.size c3 (F ++ (be8 x).take j))) (fun _ c6 _ => ((intOf c6) + 8).toNat)
      case atStart => exact ⟨0, by omega, rfl, Lib.hid (by simpa using HG.out)⟩
      case round =>
        clear HG
        obtain ⟨j, hj, rfl, HG⟩ := hrel
        by_cases hlj : j < 8
        case neg =>
          obtain rfl : j = 8 := by omega
          rw [take_all8, HFL.out] at HG
          go_wp2_with fail
          go_roundw
          case rel => exact ⟨k + 1, by omega, by go_num, HG⟩
          case measure => simp [intOf]; omega
        case pos =>
          have hd3 : decide ((0 : Int) ≤ 56 - 8 * (j : Int)) = true := by simp; omega
          have hd2 : decide (8 * (j : Int) ≤ 56) = true := by simp; omega
          have hws : IntKind.i64.wrap (56 - 8 * (j : Int) - 8) = 56 - 8 * (j : Int) - 8 := IntWalk.i64_in _ (by omega)
          have p0 : (0 : Int) ≤ 56 - 8 * (j : Int) := by omega
          have e0 : (56 - 8 * (j : Int)).toNat = 56 - 8 * j := by omega
          have hm0 : min (56 - 8 * j) 64 = 56 - 8 * j := by omega
          have x0 := HUX.out.1
          have hpl : (F ++ (be8 x).take j).length ≤ 300 := by have := HF.out; simp [be8_len]; omega
          have HXM := Lib.hid (show (F ++ (be8 x).take j).length + 1 ≤ maxLen by unfold maxLen; omega)
          have HXB := Lib.hid (show ((F ++ (be8 x).take j).length + 1) * 1 ≤ 140737488355328 by omega)
          clear hpl
          go_wp2_with (at_builtin; (refine wpList_append_own _ rfl _ _ 27 rfl w.heap.size 5 i0 (.int .u8 0) 1 1 Tryd.underlying27 hi hz0 hz1 hz2 rfl (by decide) _ (F ++ (be8 x).take j).length ((F ++ (be8 x).take j).map (Value.int .u8)) rfl (HG.out.own.keep ((Below.refl _ _).alloc (Nat.le_refl _) _)) _ 1 1 [.int .u8 (x / 2 ^ (56 - 8 * j) % 256)] rfl rfl (fun j u hj => by cases j with | zero => simp at hj; subst hj; simp [go_sem] | succ j => simp at hj) (fun u hu => by simp at hu; subst hu; rfl) HXM.out HXB.out (HG.out.leA _) ?_); intro v4 w4 hown hgr hnil; have HG4 := Lib.hid (HG.out.snoc hown hgr); clear hown hgr hnil)
          go_roundw
          case rel => exact ⟨j + 1, by omega, by go_num, by rw [← be8_snoc x j hlj rfl, ← List.append_assoc]; exact HG4.out⟩
          case measure => simp [intOf]; omega

set_option maxRecDepth 100000 in
set_option maxHeartbeats 4000000 in
theorem rEight_any {a : Option Addr} {n c : Nat} {bs : List Int} {x : Int} (w : World) (h : ShI .u8 w a n bs) (ux : U64 x) (hn : n ≤ 10000) :
    Calls Tryd.prog 80 #[.slice a n c, .int .u64 x] w fun e w' => ∃ v, e = .returned v ∧ OwnB w' w.heap.size v (bs ++ be8 x) ∧ Below w.heap.size w w' := by
  obtain ⟨i0, hi, hz0, hz1, hz2⟩ := info_parts (P := Tryd.prog) (e := 5) (z := .int .u8 0) (size := 1) (bytes := 1) (by kernel_rfl)
  have HS := Lib.hid h
  have HL := Lib.hid h.len
  have HUX := Lib.hid ux
  have HG0 := Lib.hid (show Grew w (w.alloc (.cells #[] 5)) w.heap.size (.slice (some ⟨w.heap.size, 0, none⟩) 0 0) [] from ⟨World.ownsRow_lit w #[] 0 (Nat.le_refl _) (by decide) rfl, (Below.refl _ _).alloc (Nat.le_refl _) _, by simp⟩)
  clear h ux
  go_enter Tryd.func80, Tryd.ntmps80
  go_wp2_with (at_builtin; refine wpL_append_sh rfl _ _ rfl w.heap.size _ [] bs a n c rfl rfl HG0.out.own (HS.out.keep HG0.out.bel) (by omega) (by simp) HG0.out.le ?_; intro v1 w1 hown hgr; have HG := Lib.hid (HG0.out.app hown hgr); clear hown hgr; simp only [Act.put, List.setIfInBounds_toArray, List.set_cons_zero, List.set_cons_succ])
  replace HG := Lib.hid (show Grew w w1 w.heap.size v1 bs from HG.out)
  clear HG0
  go_loopw [5, 6] (fun c5 c6 wr => ∃ j : Nat, j ≤ 8 ∧ c6 = .int .i64 j ∧ Hid (Grew w wr w.heap.size c5 (bs ++ (be8 x).take j))) (fun _ c6 _ => 8 - (intOf c6).toNat)
  case atStart => exact ⟨0, by omega, rfl, Lib.hid (by simpa using HG.out)⟩
  case round =>
    clear HG
    obtain ⟨j, hj, rfl, HG⟩ := hrel
    by_cases hlt : j < 8
    case neg =>
      obtain rfl : j = 8 := by omega
      rw [take_all8] at HG
      simp only [Int.cast_ofNat_Int]
      go_wp2_with fail
      go_ret
      exact ⟨_, rfl, HG.out.own, HG.out.bel⟩
    case pos =>
      have hd : decide ((j : Int) < 8) = true := by simp; omega
      have j0 : (0 : Int) ≤ (j : Int) := by omega
      have p0 : (0 : Int) ≤ 56 - 8 * (j : Int) := by omega
      have e0 : (56 - 8 * (j : Int)).toNat = 56 - 8 * j := by omega
      have hm0 : min (56 - 8 * j) 64 = 56 - 8 * j := by omega
      have hw1 : IntKind.i64.wrap ((j : Int) + 1) = (j : Int) + 1 := IntWalk.i64_in _ (by omega)
      have hw2 : IntKind.i64.wrap (8 * (j : Int)) = 8 * (j : Int) := IntWalk.i64_in _ (by omega)
      have hw3 : IntKind.i64.wrap (56 - 8 * (j : Int)) = 56 - 8 * (j : Int) := IntWalk.i64_in _ (by omega)
      have x0 := HUX.out.1
      have hpl : (bs ++ (be8 x).take j).length ≤ 20000 := by have := HL.out; simp [be8_len]; omega
      have HXM := Lib.hid (show (bs ++ (be8 x).take j).length + 1 ≤ maxLen by unfold maxLen; omega)
      have HXB := Lib.hid (show ((bs ++ (be8 x).take j).length + 1) * 1 ≤ 140737488355328 by omega)
      clear hpl
      go_wp2_with (at_builtin; (refine wpList_append_own _ rfl _ _ 27 rfl w.heap.size 5 i0 (.int .u8 0) 1 1 Tryd.underlying27 hi hz0 hz1 hz2 rfl (by decide) _ (bs ++ (be8 x).take j).length ((bs ++ (be8 x).take j).map (Value.int .u8)) rfl (HG.out.own.keep ((Below.refl _ _).alloc (Nat.le_refl _) _)) _ 1 1 [.int .u8 (x / 2 ^ (56 - 8 * j) % 256)] rfl rfl (fun j u hj => by cases j with | zero => simp at hj; subst hj; simp [go_sem] | succ j => simp at hj) (fun u hu => by simp at hu; subst hu; rfl) HXM.out HXB.out (HG.out.leA _) ?_); intro v4 w4 hown hgr hnil; have HG4 := Lib.hid (HG.out.snoc hown hgr); clear hown hgr hnil)
      go_roundw
      case rel => exact ⟨j + 1, by omega, by go_num, by rw [← be8_snoc x j hlt rfl, ← List.append_assoc]; exact HG4.out⟩
      case measure => simp [intOf]; omega
end Go.Proofs.YtmcpfinnhgbcpaaDoor
/- schnorr.Challenge, schnorr.nonce; the reference's Nonce. -/
namespace Go.Proofs.YtmcpfinnhgbcpaaDoor
open Go Go.RowKit Num Sha
set_option linter.unusedSimpArgs false
set_option linter.unusedVariables false

/-- A text in memory, beside the tables of the digest. -/
structure Txt (w : World) (a : Option Addr) (n : Nat) (T : List Int) : Prop where
  tabs : Tabs w
  sh : ShI .u8 w a n T
  by8 : ByteL T
theorem Txt.keep {w w' : World} {a : Option Addr} {n : Nat} {T : List Int} (h : Txt w a n T) (hb : Below w.heap.size w w') : Txt w' a n T := ⟨h.tabs.below hb, h.sh.keep hb, h.by8⟩
theorem Boxed.under {w w' : World} {B n : Nat} {P Q G : Int} (h : Boxed w B P Q G) (hb : Below n w w') (hn : B < n) : Boxed w' B P Q G :=
  ⟨(hb.cell (p := ⟨B, 0, none⟩) hn).trans h.c0, (hb.cell (p := ⟨B, 1, none⟩) hn).trans h.c1, (hb.cell (p := ⟨B, 2, none⟩) hn).trans h.c2, Nat.lt_of_lt_of_le h.lt hb.size⟩
theorem Boxed.laid {w w' : World} {B b q : Nat} {k : IntKind} {ys : List Int} {P Q G : Int} (h : Boxed w B P Q G) (hL : Laid k w w' b q ys) (hn : B ≠ b) : Boxed w' B P Q G :=
  ⟨(hL.cell _ _ hn).trans h.c0, (hL.cell _ _ hn).trans h.c1, (hL.cell _ _ hn).trans h.c2, by rw [hL.size]; exact h.lt⟩

/-- The code of a text that is too long, behind the other checks. -/
def lgS (a : Int) (n : Nat) : Int := if a = 0 then (if 8000 < n then 4 else 0) else a
theorem lgS_zero {a : Int} {n : Nat} (h : lgS a n = 0) : a = 0 ∧ n ≤ 8000 := by
  unfold lgS at h
  by_cases ha : a = 0
  · rw [if_pos ha] at h
    by_cases hn : 8000 < n
    · rw [if_pos hn] at h; omega
    · exact ⟨ha, by omega⟩
  · rw [if_neg ha] at h; exact absurd h ha
/-- The exponent of the digest of numbers and a text. -/
def chV (Q : Int) (ns T : List Int) : Int := beN ((shaS (flat8 ns ++ T)).take 8) % Q
theorem chV_range {Q : Int} (h : 0 < Q) (ns T : List Int) : 0 ≤ chV Q ns T ∧ chV Q ns T < Q := ⟨Int.emod_nonneg _ (by omega), Int.emod_lt_of_pos _ h⟩
/-- The nonce of a signature. -/
def noV (Q x : Int) (T : List Int) : Int := beN ((shaS (flat8 [x] ++ T)).take 8) % (Q - 1) + 1
theorem noV_range {Q : Int} (h : 2 ≤ Q) (x : Int) (T : List Int) : 0 ≤ noV Q x T ∧ noV Q x T < Q := by
  have h0 := Int.emod_nonneg (beN ((shaS (flat8 [x] ++ T)).take 8)) (b := Q - 1) (by omega)
  have h1 := Int.emod_lt_of_pos (beN ((shaS (flat8 [x] ++ T)).take 8)) (b := Q - 1) (by omega)
  exact ⟨by unfold noV; omega, by unfold noV; omega⟩

set_option maxRecDepth 100000 in
set_option maxHeartbeats 4000000 in
theorem schallenge_any {P Q G y r v c : Int} {tx : Option Addr} {n cp : Nat} {T : List Int} (w : World) (hT : Txt w tx n T) (hP : 0 ≤ P) (hQ : 0 ≤ Q) (hG : 0 ≤ G) (uy : U64 y) (ur : U64 r) (hn : n ≤ 8100) (h : RetS (lgS (askS P Q G [] [y, r]) n) (chV Q [y, r] T) v c) :
    Calls Tryd.prog 17 #[.agg #[.int .u64 P, .int .u64 Q, .int .u64 G], .int .u64 y, .int .u64 r, .slice tx n cp] w fun e w' => e = .returned (.tuple #[.int .u64 v, .int .i64 c]) ∧ Below w.heap.size w w' := by
  have HT := Lib.hid hT
  have HTL := Lib.hid hT.sh.len
  have HUS := Lib.hid (show ∀ x, x ∈ [y, r] → U64 x from fun x hx => by simp at hx; rcases hx with rfl | rfl <;> assumption)
  clear hT uy ur
  rcases h with ⟨h, hv, rfl⟩ | ⟨h, rfl, hc⟩
  · obtain ⟨h, hn8⟩ := lgS_zero h
    obtain ⟨hH, -, -⟩ := askS_zero h
    have HR := Lib.hid h
    have hd : decide ((8000 : Int) < (n : Int)) = false := by simp; omega
    have hdn : decide (8000 < n) = false := by simp; omega
    clear h
    obtain ⟨D, hD⟩ : ∃ D, shaS (flat8 [y, r] ++ T) = D := ⟨_, rfl⟩
    have HLD := Lib.hid (show D.length = 32 by rw [← hD, shaS_len])
    have HBD := Lib.hid (show Bytes D by rw [← hD]; exact shaS_bytes _)
    have HD := Lib.hid hD
    have HV := Lib.hid (show beN (D.take 8) % Q = v by rw [hv, chV, hD])
    clear hD hv
    obtain ⟨p5, p3, hQ', pq, g2, gP⟩ := id hH
    have hP1 : 1 ≤ P := by omega
    have hGM : G < 2147483648 := by omega
    have q3 : Q < 1073741824 := by omega
    have q2 : 2 ≤ Q := by omega
    have HH := Lib.hid hH
    clear hH pq
    have F_g := Lib.hid (show Boxed ((w.alloc (.cells #[.int .u64 P, .int .u64 Q, .int .u64 G] 24)).alloc (.cells #[.int .u64 y, .int .u64 r] 22)) (w.heap.size) P Q G from (Boxed.at _ P Q G _ (w.heap.size) (by simp)).alloc _)
    have F_ns := Lib.hid (show ShL ((w.alloc (.cells #[.int .u64 P, .int .u64 Q, .int .u64 G] 24)).alloc (.cells #[.int .u64 y, .int .u64 r] 22)) (some ⟨w.heap.size + 1, 0, none⟩) 2 2 [y, r] from ShL.laid _ [y, r] _ _ (w.heap.size + 1) _ _ (by simp) rfl rfl)
    have HBW := Lib.hid (show Below w.heap.size w ((w.alloc (.cells #[.int .u64 P, .int .u64 Q, .int .u64 G] 24)).alloc (.cells #[.int .u64 y, .int .u64 r] 22)) from ((Below.refl _ _).alloc (by simp <;> omega) _).alloc (by simp <;> omega) _)
    go_enter Tryd.func17, Tryd.ntmps17
    obtain ⟨x0a, x0b, x0c, -⟩ := id F_g.out
    go_wp2_with fail
    clear x0a x0b x0c
    refine (scheck_any _ hP hQ hG (ShL.nil _) F_ns.out (by simp) (by simp) HR.out).mono ?_
    rintro e w1 ⟨rfl, hb1⟩
    replace F_g := Lib.hid (F_g.out.keep hb1)
    replace HBW := Lib.hid (HBW.out.trans (hb1.mono HBW.out.size))
    clear hb1
    clear F_ns
    obtain ⟨x0a, x0b, x0c, -⟩ := id F_g.out
    go_wp2_with fail
    clear x0a x0b x0c
    have F_ms := Lib.hid (ShL.laid w1 [y, r] _ 22 _ 2 2 rfl rfl rfl)
    replace F_g := Lib.hid (F_g.out.alloc (.cells #[.int .u64 y, .int .u64 r] 22))
    replace HBW := Lib.hid (HBW.out.alloc HBW.out.size (.cells #[.int .u64 y, .int .u64 r] 22))
    have HLG := Lib.hid (show w.heap.size < (w1.alloc (.cells #[.int .u64 y, .int .u64 r] 22)).heap.size from F_g.out.lt)
    have HLW := Lib.hid (show w.heap.size ≤ (w1.alloc (.cells #[.int .u64 y, .int .u64 r] 22)).heap.size from HBW.out.size)
    refine (sbytes_any _ F_ms.out HUS.out (by simp)).mono ?_
    rintro e w2 ⟨v2, rfl, O2, hb2⟩
    have HLE := Lib.hid hb2.size
    replace F_g := Lib.hid (F_g.out.keep hb2)
    replace HBW := Lib.hid (HBW.out.trans (hb2.mono HBW.out.size))
    clear hb2
    clear F_ms
    go_wp2_with (at_builtin; refine wpL_append_sh rfl _ _ rfl (w1.alloc (.cells #[.int .u64 y, .int .u64 r] 22)).heap.size _ (flat8 [y, r]) T tx n cp rfl rfl O2 (HT.out.keep HBW.out).sh (by omega) (by rw [flat8_len]; simp) HLE.out ?_; intro v3 w3 hown hgr; have hb3 := Below.grown (Below.refl (w1.alloc (.cells #[.int .u64 y, .int .u64 r] 22)).heap.size _) hgr HLE.out (fun k hk => (World.ownsRow.lt O2 k hk).1); have O3 := hown; replace F_g := Lib.hid (F_g.out.under hb3 HLG.out); replace HBW := Lib.hid (HBW.out.trans (hb3.mono HLW.out)); clear hown hgr; simp only [Act.put, List.setIfInBounds_toArray, List.set_cons_zero, List.set_cons_succ])
    obtain ⟨a3, c3, rfl, S3⟩ := O3.shi
    clear HLG HLW HLE O2 O3
    refine (dSum_any _ (HT.out.keep HBW.out).tabs S3 (by have := HTL.out; rw [List.length_append, flat8_len]; simp; omega) ((flat8_bytes _).append HT.out.by8)).mono ?_
    rintro e w4 ⟨he, hb4⟩
    replace F_g := Lib.hid (F_g.out.keep hb4)
    replace HBW := Lib.hid (HBW.out.trans (hb4.mono HBW.out.size))
    clear hb4
    rw [HD.out] at he
    subst he
    clear S3
    go_wp2_with (first
      | (refine wpL_allocArr rfl 81 .u8 32 rfl (by kernel_rfl) ?_; intro wd hd'; have ne_g_d := Nat.ne_of_lt F_g.out.lt; have le_d := HBW.out.size; replace F_g := Lib.hid (F_g.out.keep (hd'.below _ (Nat.le_refl _))); have F_d := Lib.hid hd'.arr; replace HBW := Lib.hid (HBW.out.trans (hd'.below _ HBW.out.size)); clear hd'; simp only [Act.put, List.setIfInBounds_toArray, List.set_cons_zero, List.set_cons_succ])
      | (refine wpL_storeArr rfl 81 .u8 _ _ _ D _ rfl rfl rfl rfl (by rw [HLD.out]; kernel_rfl) F_d.out (by rw [HLD.out]; rfl) ?_; intro ws hs'; replace F_g := Lib.hid (F_g.out.laid hs' ne_g_d); replace F_d := Lib.hid (F_d.out.whole hs'); replace HBW := Lib.hid (HBW.out.trans (hs'.below _ le_d)); clear hs'; obtain ⟨x0a, x0b, x0c, -⟩ := id F_g.out)
      | (refine wpL_loadArr rfl 81 .u8 _ _ _ 32 5 rfl rfl Tryd.underlying81 (by rw [HLD.out]; kernel_rfl) F_d.out ?_; simp only [Act.put, List.setIfInBounds_toArray, List.set_cons_zero, List.set_cons_succ]))
    clear x0a x0b x0c
    refine (fromDigest_ok P Q G v D _ HH.out (by rw [HLD.out]; decide) HBD.out HV.out).mono ?_
    rintro e w7 ⟨rfl, hb7⟩
    replace F_g := Lib.hid (F_g.out.keep hb7)
    replace HBW := Lib.hid (HBW.out.trans (hb7.mono HBW.out.size))
    clear hb7
    go_wp2_with fail
    go_ret2
    exact ⟨rfl, HBW.out⟩
  · by_cases ha : askS P Q G [] [y, r] = 0
    · have hn8 : 8000 < n := by
        by_cases h8 : 8000 < n
        · exact h8
        · exact absurd (by unfold lgS; rw [if_pos ha, if_neg h8]) h
      obtain rfl : c = 4 := by rw [hc]; unfold lgS; rw [if_pos ha, if_pos hn8]
      have HR := Lib.hid ha
      have hd : decide ((8000 : Int) < (n : Int)) = true := by simp; omega
      have hdn : decide (8000 < n) = true := by simp; omega
      clear h hc ha
      have F_g := Lib.hid (show Boxed ((w.alloc (.cells #[.int .u64 P, .int .u64 Q, .int .u64 G] 24)).alloc (.cells #[.int .u64 y, .int .u64 r] 22)) (w.heap.size) P Q G from (Boxed.at _ P Q G _ (w.heap.size) (by simp)).alloc _)
      have F_ns := Lib.hid (show ShL ((w.alloc (.cells #[.int .u64 P, .int .u64 Q, .int .u64 G] 24)).alloc (.cells #[.int .u64 y, .int .u64 r] 22)) (some ⟨w.heap.size + 1, 0, none⟩) 2 2 [y, r] from ShL.laid _ [y, r] _ _ (w.heap.size + 1) _ _ (by simp) rfl rfl)
      have HBW := Lib.hid (show Below w.heap.size w ((w.alloc (.cells #[.int .u64 P, .int .u64 Q, .int .u64 G] 24)).alloc (.cells #[.int .u64 y, .int .u64 r] 22)) from ((Below.refl _ _).alloc (by simp <;> omega) _).alloc (by simp <;> omega) _)
      go_enter Tryd.func17, Tryd.ntmps17
      obtain ⟨x0a, x0b, x0c, -⟩ := id F_g.out
      go_wp2_with fail
      clear x0a x0b x0c
      refine (scheck_any _ hP hQ hG (ShL.nil _) F_ns.out (by simp) (by simp) HR.out).mono ?_
      rintro e w1 ⟨rfl, hb1⟩
      replace F_g := Lib.hid (F_g.out.keep hb1)
      replace HBW := Lib.hid (HBW.out.trans (hb1.mono HBW.out.size))
      clear hb1
      obtain ⟨x0a, x0b, x0c, -⟩ := id F_g.out
      go_wp2_with fail
      go_ret2
      exact ⟨rfl, HBW.out⟩
    · have hc' : c = askS P Q G [] [y, r] := by rw [hc]; unfold lgS; rw [if_neg ha]
      have hnc : c ≠ 0 := by rw [hc']; exact ha
      have hn1 : (c != 0) = true := by simpa using hnc
      have HR := Lib.hid hc'.symm
      clear h hc ha hc' hnc
      have F_g := Lib.hid (show Boxed ((w.alloc (.cells #[.int .u64 P, .int .u64 Q, .int .u64 G] 24)).alloc (.cells #[.int .u64 y, .int .u64 r] 22)) (w.heap.size) P Q G from (Boxed.at _ P Q G _ (w.heap.size) (by simp)).alloc _)
      have F_ns := Lib.hid (show ShL ((w.alloc (.cells #[.int .u64 P, .int .u64 Q, .int .u64 G] 24)).alloc (.cells #[.int .u64 y, .int .u64 r] 22)) (some ⟨w.heap.size + 1, 0, none⟩) 2 2 [y, r] from ShL.laid _ [y, r] _ _ (w.heap.size + 1) _ _ (by simp) rfl rfl)
      have HBW := Lib.hid (show Below w.heap.size w ((w.alloc (.cells #[.int .u64 P, .int .u64 Q, .int .u64 G] 24)).alloc (.cells #[.int .u64 y, .int .u64 r] 22)) from ((Below.refl _ _).alloc (by simp <;> omega) _).alloc (by simp <;> omega) _)
      go_enter Tryd.func17, Tryd.ntmps17
      obtain ⟨x0a, x0b, x0c, -⟩ := id F_g.out
      go_wp2_with fail
      clear x0a x0b x0c
      refine (scheck_any _ hP hQ hG (ShL.nil _) F_ns.out (by simp) (by simp) HR.out).mono ?_
      rintro e w1 ⟨rfl, hb1⟩
      replace F_g := Lib.hid (F_g.out.keep hb1)
      replace HBW := Lib.hid (HBW.out.trans (hb1.mono HBW.out.size))
      clear hb1
      obtain ⟨x0a, x0b, x0c, -⟩ := id F_g.out
      go_wp2_with fail
      go_ret2
      exact ⟨rfl, HBW.out⟩

end Go.Proofs.YtmcpfinnhgbcpaaDoor
/- The reference's Of, Nonce, Challenge. -/
namespace Go.Proofs.YtmcpfinnhgbcpaaDoor
open Go Go.RowKit Num Sha
set_option linter.unusedSimpArgs false
set_option linter.unusedVariables false

theorem OwnB.shs {w : World} {n₀ : Nat} {v : Value} {xs : List Int} (h : OwnB w n₀ v xs) (h1 : 1 ≤ xs.length) : ∃ g c, v = .slice (Option.some ⟨g, 0, none⟩) xs.length c ∧ ShI .u8 w (Option.some ⟨g, 0, none⟩) xs.length xs := by
  obtain ⟨g, cap, rfl, -, -⟩ := h.some h1
  obtain ⟨a, c, e, hs⟩ := h.shi
  injection e with e1 e2 e3
  subst e1
  exact ⟨g, cap, rfl, hs⟩
theorem lgS_ok {a : Int} {n : Nat} (h : a = 0) (hn : n ≤ 8000) : lgS a n = 0 := by unfold lgS; rw [if_pos h, if_neg (by omega)]
theorem lgS_long {a : Int} {n : Nat} (h : a = 0) (hn : lgS a n ≠ 0) : 8000 < n := by
  by_cases h8 : 8000 < n
  · exact h8
  · exact absurd (lgS_ok h (by omega)) hn
theorem lgS_four {a : Int} {n : Nat} (h : a = 0) (hn : 8000 < n) : lgS a n = 4 := by unfold lgS; rw [if_pos h, if_pos hn]
theorem lgS_ne {a : Int} {n : Nat} (h : a ≠ 0) : lgS a n = a := by unfold lgS; rw [if_neg h]
theorem flat8_one (x : Int) : flat8 [x] = be8 x := by simp [flat8]

set_option maxRecDepth 100000 in
set_option maxHeartbeats 4000000 in
theorem rOf31_any {P Q G v : Int} {a tx : Option Addr} {m d n cp : Nat} {ns T : List Int} (w : World) (hT : Txt w tx n T) (hH : Has P Q G) (hs : ShL w a m d ns) (hu : ∀ x, x ∈ ns → U64 x) (hm : m ≤ 20) (hm1 : 1 ≤ m) (hn : n ≤ 8100) (hv : chV Q ns T = v) :
    Calls Tryd.prog 67 #[.agg #[.int .u64 P, .int .u64 Q, .int .u64 G], .slice a m d, .slice tx n cp] w fun e w' => e = .returned (.int .u64 v) ∧ Below w.heap.size w w' := by
  have HT := Lib.hid hT
  have HTL := Lib.hid hT.sh.len
  have HS := Lib.hid hs
  have HL := Lib.hid hs.len
  have HU := Lib.hid hu
  clear hT hs hu
  obtain ⟨D, hD⟩ : ∃ D, shaS (flat8 ns ++ T) = D := ⟨_, rfl⟩
  have HLD := Lib.hid (show D.length = 32 by rw [← hD, shaS_len])
  have HBD := Lib.hid (show Bytes D by rw [← hD]; exact shaS_bytes _)
  have HD := Lib.hid hD
  have HV := Lib.hid (show beN (D.take 8) % Q = v by rw [← hv, chV, hD])
  clear hD hv
  obtain ⟨p5, p3, hQ', pq, g2, gP⟩ := id hH
  have hP1 : 1 ≤ P := by omega
  have hGM : G < 2147483648 := by omega
  have q3 : Q < 1073741824 := by omega
  have q2 : 2 ≤ Q := by omega
  have HH := Lib.hid hH
  clear hH pq
  have F_g := Lib.hid (show Boxed (w.alloc (.cells #[.int .u64 P, .int .u64 Q, .int .u64 G] 24)) (w.heap.size) P Q G from Boxed.at _ P Q G _ (w.heap.size) (by simp))
  have HBW := Lib.hid (show Below w.heap.size w (w.alloc (.cells #[.int .u64 P, .int .u64 Q, .int .u64 G] 24)) from (Below.refl _ _).alloc (by simp <;> omega) _)
  go_enter Tryd.func67, Tryd.ntmps67
  obtain ⟨x0a, x0b, x0c, -⟩ := id F_g.out
  go_wp2_with fail
  clear x0a x0b x0c
  go_loopw [7, 8] (fun c7 c8 wr => ∃ k : Nat, k ≤ m ∧ c8 = .int .i64 k ∧ Hid (OwnB wr (w.heap.size + 1) c7 (flat8 (ns.take k))) ∧ Hid (Boxed wr w.heap.size P Q G) ∧ Hid (Below w.heap.size w wr)) (fun _ c8 _ => m - (intOf c8).toNat)
  case atStart => exact ⟨0, by omega, rfl, Lib.hid (World.ownsRow_nil _ _ _ _), F_g.out, HBW.out⟩
  case round =>
    clear F_g HBW
    obtain ⟨k, hk, rfl, O7, F_g, HBW⟩ := hrel
    have hgl := F_g.out.lt
    have HLE := Lib.hid (show w.heap.size + 1 ≤ wr.heap.size from hgl)
    have hll := HL.out
    by_cases hlt : k < m
    case pos =>
      have hd : decide ((k : Int) < (m : Int)) = true := by simp; omega
      have hdn : decide (k < m) = true := by simp; omega
      have k0 : (0 : Int) ≤ (k : Int) := by omega
      have hw1 : IntKind.i64.wrap ((k : Int) + 1) = (k : Int) + 1 := IntWalk.i64_in _ (by omega)
      obtain ⟨s, rfl, hc⟩ := (HS.out.keep HBW.out).at k hlt
      obtain ⟨x, hx⟩ : ∃ x, ns.getD k 0 = x := ⟨_, rfl⟩
      have HUX := Lib.hid (show U64 x from HU.out x (by rw [← hx, List.getD_eq_getElem?_getD, List.getElem?_eq_getElem (by omega)]; exact List.getElem_mem _))
      have HFL := Lib.hid (show flat8 (ns.take k) ++ be8 x = flat8 (ns.take (k + 1)) from flat8_snoc ns k (by omega) hx)
      obtain ⟨F, hF⟩ : ∃ F, flat8 (ns.take k) = F := ⟨_, rfl⟩
      have HF := Lib.hid (show F.length ≤ 200 by rw [← hF, flat8_len, List.length_take]; omega)
      rw [hF] at O7 HFL
      rw [hx] at hc
      clear hF hx hll
      obtain ⟨a7, d7, rfl, S7⟩ := O7.out.shi
      have HS7 := Lib.hid S7
      clear S7
      go_wp2_with (go_at_call 80; refine (rEight_any _ HS7.out HUX.out (by have := HF.out; omega)).mono ?_; rintro e w8 ⟨v8, rfl, O8, hb8⟩; replace O8 := Lib.hid (O8.mono HLE.out); replace F_g := Lib.hid (F_g.out.keep hb8); replace HBW := Lib.hid (HBW.out.trans (hb8.mono HBW.out.size)); clear hb8)
      go_roundw
      case rel => exact ⟨k + 1, by omega, by go_num, by rw [← HFL.out]; exact O8, F_g, HBW⟩
      case measure => simp [intOf]; omega
    case neg =>
      obtain rfl : k = m := by omega
      have HKN := Lib.hid (show k = ns.length from hll)
      rw [show ns.take k = ns by rw [hll, List.take_length]] at O7
      clear hlt hk hll
      go_wp2_with fail
      replace F_g := Lib.hid F_g.out.drew
      replace HBW := Lib.hid HBW.out.drew
      replace O7 := Lib.hid (OwnB.keep O7.out (Below.refl _ _).drew)
      replace HLE := Lib.hid (show w.heap.size + 1 ≤ wr.drew.heap.size from hgl)
      have hS := F_g.out.s
      refine wp_region_stage 5 (fun w' => SBox w' w.heap.size P Q G) (by kernel_rfl) ?_
      refine wpAnyB_take (i := 0) (some 21) (Op.load 24 (Operand.tmp 3)) 24 (v := ?_) ⟨_, rfl, rfl, rfl, rfl, rfl⟩ (by kernel_rfl) (by kernel_rfl) (by kernel_rfl) [5] (by kernel_rfl) (fun _ _ _ h => h) hS (fun w' hSw => ?_) ?_
      rotate_left
      · obtain ⟨s0, s1, s2⟩ := hSw
        unfold bareOp
        go_simp
        try with_reducible rfl
      simp only [Act.put, List.setIfInBounds_toArray, List.set_cons_zero, List.set_cons_succ]
      refine wpAnyB_takeP (i := 1) (some 22) (Op.move (Operand.tmp 7)) 27 (v := ?_) ⟨_, rfl, rfl, rfl, rfl, rfl⟩ (by kernel_rfl) (by kernel_rfl) (by kernel_rfl) (by kernel_rfl) (fun _ _ _ h => h) (fun _ => hS) (fun w' => ?_) ?_
      rotate_left
      · unfold bareOp
        go_simp
        try with_reducible rfl
      simp only [Act.put, List.setIfInBounds_toArray, List.set_cons_zero, List.set_cons_succ]
      refine wpAnyB_takeP (i := 2) (some 23) (Op.move (Operand.tmp 2)) 27 (v := ?_) ⟨_, rfl, rfl, rfl, rfl, rfl⟩ (by kernel_rfl) (by kernel_rfl) (by kernel_rfl) (by kernel_rfl) (fun _ _ _ h => h) (fun _ => hS) (fun w' => ?_) ?_
      rotate_left
      · unfold bareOp
        go_simp
        try with_reducible rfl
      simp only [Act.put, List.setIfInBounds_toArray, List.set_cons_zero, List.set_cons_succ]
      refine wpAnyB_only (i := 3) (some 24) (Op.call { callee := Callee.builtin Builtin.append, args := #[Operand.tmp 22, Operand.tmp 23], argTypes := #[27, 27] }) 27 ⟨_, rfl, rfl, rfl, rfl, rfl⟩ (by kernel_rfl) (fun K hK => ?_)
      unfold bareOp
      refine wp_append_sh _ _ rfl (w.heap.size + 1) _ (flat8 ns) T tx n cp rfl rfl O7.out (HT.out.keep HBW.out).sh (by omega) (by rw [flat8_len]; have := HKN.out; omega) HLE.out ?_
      intro v3 w3 hown hgr
      have hb3 := Below.grown (Below.refl (w.heap.size + 1) _) hgr HLE.out (fun k hk => (World.ownsRow.lt O7.out k hk).1)
      obtain ⟨g3, c3, rfl, S3⟩ := hown.shs (by rw [List.length_append, flat8_len]; have := HKN.out; omega)
      obtain ⟨N3, hN3⟩ : ∃ N3, (flat8 ns ++ T).length = N3 := ⟨_, rfl⟩
      rw [hN3] at S3 ⊢
      have HN3 := Lib.hid (show N3 ≤ 100000 by have := HTL.out; have := HKN.out; rw [← hN3, List.length_append, flat8_len]; omega)
      clear hN3
      replace F_g := Lib.hid (F_g.out.under hb3 (by omega))
      replace HBW := Lib.hid (HBW.out.trans (hb3.mono (by omega)))
      replace hS := F_g.out.s
      clear hown hgr hb3
      refine hK.out _ _ (fun _ => hS) ?_
      clear hK K
      try simp only [Act.put, List.setIfInBounds_toArray, List.set_cons_zero, List.set_cons_succ]
      refine wpAnyB_only (i := 4) (some 25) (Op.call { callee := Callee.value (Operand.func 82), args := #[Operand.tmp 24], argTypes := #[27] }) 81 ⟨_, rfl, rfl, rfl, rfl, rfl⟩ (by kernel_rfl) (fun K hK => ?_)
      unfold bareOp
      go_wp2_with (go_at_call 82; refine (rOf5_any _ S3 HN3.out ((flat8_bytes _).append HT.out.by8)).mono ?_; rintro e w4 ⟨he, hb4⟩; rw [HD.out] at he; subst he)
      replace F_g := Lib.hid (F_g.out.keep hb4)
      replace HBW := Lib.hid (HBW.out.trans (hb4.mono HBW.out.size))
      replace hS := F_g.out.s
      clear hb4 S3
      refine hK.out _ _ (fun _ => hS) ?_
      clear hK K
      try simp only [Act.put, List.setIfInBounds_toArray, List.set_cons_zero, List.set_cons_succ]
      refine wpAnyB_only (i := 5) (some 26) (Op.call { callee := Callee.value (Operand.func 81), args := #[Operand.tmp 21, Operand.tmp 25], argTypes := #[24, 81] }) 22 ⟨_, rfl, rfl, rfl, rfl, rfl⟩ (by kernel_rfl) (fun K hK => ?_)
      unfold bareOp
      go_wp2_with (go_at_call 81; refine (rOf_ok P Q G v D _ HH.out HLD.out HBD.out HV.out).mono ?_; rintro e w5 ⟨rfl, hb5⟩)
      replace F_g := Lib.hid (F_g.out.keep hb5)
      replace HBW := Lib.hid (HBW.out.trans (hb5.mono HBW.out.size))
      replace hS := F_g.out.s
      clear hb5
      refine hK.out _ _ (fun h => absurd (h.symm.trans (by kernel_rfl : _ = true)) (by decide)) ?_
      clear hK K
      try simp only [Act.put, List.setIfInBounds_toArray, List.set_cons_zero, List.set_cons_succ]
      refine wpAnyB_takeP (i := 6) (some 6) (Op.assign (Operand.tmp 26)) 22 (v := ?_) ⟨_, rfl, rfl, rfl, rfl, rfl⟩ (by kernel_rfl) (by kernel_rfl) (by kernel_rfl) (by kernel_rfl) (fun _ _ _ h => h) (fun h => absurd (h.symm.trans (by kernel_rfl : _ = true)) (by decide)) (fun w' => ?_) ?_
      rotate_left
      · unfold bareOp
        go_simp
        try with_reducible rfl
      simp only [Act.put, List.setIfInBounds_toArray, List.set_cons_zero, List.set_cons_succ]
      refine wpAnyB_done (by kernel_rfl) ?_ _
      go_wp2_with fail
      go_ret
      exact ⟨rfl, HBW.out⟩


end Go.Proofs.YtmcpfinnhgbcpaaDoor
