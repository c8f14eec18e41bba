/- Folded: SigA, SigB, SigC. -/
import Derived.Test.YtlbldpkgnonbpaaDoorDg2
import Derived.Test.YtlbldpkgnonbpaaDoorSchB
import Derived.Test.YtlbldpkgnonbpaaDoorRfs
/- Numbers as bytes: schnorr.bytes, the reference's Eight; texts. -/
namespace Go.Proofs.YtlbldpkgnonbpaaDoor
open Go Go.RowKit Sha
set_option linter.unusedSimpArgs false
set_option linter.unusedVariables false

theorem OwnB.mono {w : World} {n₀ n₁ : Nat} {v : Value} {xs : List Int} (h : OwnB w n₁ v xs) (hn : n₀ ≤ n₁) : OwnB w n₀ v xs := by
  refine ⟨h.1, ?_⟩
  rcases h.2 with h0 | ⟨g, cap, cur, e, b, r⟩
  · exact .inl h0
  · exact .inr ⟨g, cap, cur, e, Nat.le_trans hn b, r⟩

set_option maxHeartbeats 1000000 in
/-- A row of bytes behind a slice of the call's own; the row may be nil. -/
theorem run_append_sh (w : World) (ty : TypeId) {base : Nat} {v : Value} {xs bs : List Int} {a : Option Addr} {n c : Nat} (hown : OwnB w base v xs) (hs : ShI .u8 w a n bs) (hn : n ≤ 100000) (hx : xs.length ≤ 200000) (hb : base ≤ w.heap.size) :
    ∃ v' w', (Builtin.append_ #[30, 30] ty #[v, .slice a n c]).run Tryd.prog w = .ok v' w' ∧ OwnB w' base v' (xs ++ bs) ∧ w.grownBy w' v.ownBlock := by
  obtain ⟨i0, hi, hz0, hz1, hz2⟩ := info_parts (P := Tryd.prog) (e := 5) (z := .int .u8 0) (size := 1) (bytes := 1) (by kernel_rfl)
  have hl := hs.len
  cases a with
  | some ad =>
    obtain ⟨v', w', hr, h1, h2, -⟩ := run_append_own (P := Tryd.prog) w base 30 ty 5 i0 (.int .u8 0) 1 1 Tryd.underlying30 hi hz0 hz1 hz2 rfl (by decide) v xs.length (xs.map (Value.int .u8)) hown ad n c (bs.map (Value.int .u8)) (by rw [List.length_map, ← hl, Nat.mul_one]) hs.cells (fun u hu => by obtain ⟨x, -, rfl⟩ := List.mem_map.1 hu; rfl) (by unfold maxLen; omega) (by omega) hb
    refine ⟨v', w', hr, ?_, h2⟩
    unfold OwnB
    rw [List.length_append, List.map_append, ← hl]
    exact h1
  | none =>
    obtain ⟨rfl, rfl⟩ : n = 0 ∧ bs = [] := by
      rcases hs with h | ⟨s, o, h, -⟩
      · exact h
      · cases h
    refine ⟨v, w, ?_, by simpa using hown, World.grownBy.refl w _⟩
    rcases hown.2 with ⟨rfl, h0⟩ | ⟨g, cap, cur, rfl, -, -, hnc, -⟩
    · simp [Builtin.append_, run_underlying Tryd.underlying30, sizeOf, typeInfo, hi, hz1, Builtin.lenOf, storeCells, Builtin.firstCells, h0]
    · simp [Builtin.append_, run_underlying Tryd.underlying30, sizeOf, typeInfo, hi, hz1, Builtin.lenOf, storeCells, Builtin.firstCells, hnc]

section
variable {w : World} {ops : Array Oper} {rest : List Oper} {o : Oper} {act : Act} {Q : Exit → Act → World → Prop}
theorem wpL_append_sh (hgd : o.guard = none) (s x : Operand) (ho : o.op = .call { callee := .builtin .append, args := #[s, x], argTypes := #[30, 30] })
    (base : Nat) (v : Value) (xs bs : List Int) (a : Option Addr) (n c : Nat) (hv : act.eval s = v) (hx : act.eval x = .slice a n c) (hown : OwnB w base v xs) (hs : ShI .u8 w a n bs) (hn : n ≤ 100000) (hxs : xs.length ≤ 200000) (hb : base ≤ w.heap.size)
    (h : ∀ v' w', OwnB w' base v' (xs ++ bs) → w.grownBy w' v.ownBlock → wpList Tryd.prog ops Q rest (act.put o.dst v') w') : wpList Tryd.prog ops Q (o :: rest) act w := by
  refine wpList_plain hgd fun K hK => ?_
  obtain ⟨v', w', hr, h2, h3⟩ := run_append_sh w o.type hown hs hn hxs hb (c := c)
  unfold Oper.wp execOp
  simp only [ho, resolve, invoke, builtin, Sem.run_bind, Sem.run_pure, Result.andThen_ok, List.map_toArray, List.map_cons, List.map_nil, hv, hx, hr]
  exact hK _ _ (h v' w' h2 h3)
theorem wp_append_sh {K : Act → World → Prop} (s x : Operand) (ho : o.op = .call { callee := .builtin .append, args := #[s, x], argTypes := #[30, 30] })
    (base : Nat) (v : Value) (xs bs : List Int) (a : Option Addr) (n c : Nat) (hv : act.eval s = v) (hx : act.eval x = .slice a n c) (hown : OwnB w base v xs) (hs : ShI .u8 w a n bs) (hn : n ≤ 100000) (hxs : xs.length ≤ 200000) (hb : base ≤ w.heap.size)
    (h : ∀ v' w', OwnB w' base v' (xs ++ bs) → w.grownBy w' v.ownBlock → K (act.put o.dst v') w') : o.wp Tryd.prog act w K Q := by
  obtain ⟨v', w', hr, h2, h3⟩ := run_append_sh w o.type hown hs hn hxs hb (c := c)
  unfold Oper.wp execOp
  simp only [ho, resolve, invoke, builtin, Sem.run_bind, Sem.run_pure, Result.andThen_ok, List.map_toArray, List.map_cons, List.map_nil, hv, hx, hr]
  exact h v' w' h2 h3
end

theorem Grew.app {w0 w w' : World} {n₀ : Nat} {v v' : Value} {xs ys : List Int} (h : Grew w0 w n₀ v xs) (hown : OwnB w' n₀ v' ys) (hg : w.grownBy w' v.ownBlock) : Grew w0 w' n₀ v' ys :=
  ⟨hown, OwnB.grow h.bel h.own hg h.le, Nat.le_trans h.le hg.size⟩
theorem Grew.alloc {w0 w : World} {n₀ : Nat} {v : Value} {xs : List Int} (h : Grew w0 w n₀ v xs) (ob : Obj) : Grew w0 (w.alloc ob) n₀ v xs :=
  ⟨h.own.keep ((Below.refl _ _).alloc (Nat.le_refl _) ob), h.bel.alloc h.le ob, h.leA ob⟩
theorem Grew.keep {w0 w w' : World} {n₀ : Nat} {v : Value} {xs : List Int} (h : Grew w0 w n₀ v xs) (hb : Below w.heap.size w w') : Grew w0 w' n₀ v xs :=
  ⟨h.own.keep hb, h.bel.trans (hb.mono h.le), Nat.le_trans h.le hb.size⟩
theorem Grew.nil (w : World) : Grew w w w.heap.size (.slice none 0 0) [] := ⟨World.ownsRow_nil _ _ _ _, Below.refl _ _, Nat.le_refl _⟩

/-- Numbers, eight bytes each. -/
def flat8 (ns : List Int) : List Int := ns.flatMap be8
theorem flat8_len : ∀ ns : List Int, (flat8 ns).length = 8 * ns.length
  | [] => rfl
  | n :: ns => by rw [flat8, List.flatMap_cons, List.length_append, be8_len, ← flat8, flat8_len ns, List.length_cons]; omega
theorem flat8_snoc (ns : List Int) (k : Nat) (hk : k < ns.length) {x : Int} (hx : ns.getD k 0 = x) : flat8 (ns.take k) ++ be8 x = flat8 (ns.take (k + 1)) := by
  subst hx
  rw [List.take_succ_eq_append_getElem hk, flat8, flat8, List.flatMap_append]
  simp [hk]
theorem be8_snoc (x : Int) (j : Nat) (hj : j < 8) {y : Int} (hy : y = x / 2 ^ (56 - 8 * j) % 256) : (be8 x).take j ++ [y] = (be8 x).take (j + 1) := by
  subst hy
  rw [List.take_succ_eq_append_getElem (by rw [be8_len]; exact hj)]
  simp [be8]
theorem be8_bytes (n : Int) : ByteL (be8 n) := by
  intro x hx
  simp only [be8, List.mem_map] at hx
  obtain ⟨i, -, rfl⟩ := hx
  omega
theorem flat8_bytes (ns : List Int) : ByteL (flat8 ns) := by
  intro x hx
  obtain ⟨n, -, h⟩ := List.mem_flatMap.1 hx
  exact be8_bytes n x h
theorem ByteL.append {xs ys : List Int} (h : ByteL xs) (k : ByteL ys) : ByteL (xs ++ ys) := fun x hx => (List.mem_append.1 hx).elim (h x) (k x)
theorem take_all8 (x : Int) : (be8 x).take 8 = be8 x := List.take_of_length_le (by rw [be8_len]; exact Nat.le_refl _)


set_option maxRecDepth 100000 in
set_option maxHeartbeats 4000000 in
theorem rEight_any {a : Option Addr} {n c : Nat} {bs : List Int} {x : Int} (w : World) (h : ShI .u8 w a n bs) (ux : U64 x) (hn : n ≤ 10000) :
    Calls Tryd.prog 59 #[.slice a n c, .int .u64 x] w fun e w' => ∃ v, e = .returned v ∧ OwnB w' w.heap.size v (bs ++ be8 x) ∧ Below w.heap.size w w' := by
  obtain ⟨i0, hi, hz0, hz1, hz2⟩ := info_parts (P := Tryd.prog) (e := 5) (z := .int .u8 0) (size := 1) (bytes := 1) (by kernel_rfl)
  have HS := Lib.hid h
  have HL := Lib.hid h.len
  have HUX := Lib.hid ux
  have HG0 := Lib.hid (show Grew w (w.alloc (.cells #[] 5)) w.heap.size (.slice (some ⟨w.heap.size, 0, none⟩) 0 0) [] from ⟨World.ownsRow_lit w #[] 0 (Nat.le_refl _) (by decide) rfl, (Below.refl _ _).alloc (Nat.le_refl _) _, by simp⟩)
  clear h ux
  go_enter Tryd.func59, Tryd.ntmps59
  go_wp2_with (at_builtin; refine wpL_append_sh rfl _ _ rfl w.heap.size _ [] bs a n c rfl rfl HG0.out.own (HS.out.keep HG0.out.bel) (by omega) (by simp) HG0.out.le ?_; intro v1 w1 hown hgr; have HG := Lib.hid (HG0.out.app hown hgr); clear hown hgr; simp only [Act.put, List.setIfInBounds_toArray, List.set_cons_zero, List.set_cons_succ])
  replace HG := Lib.hid (show Grew w w1 w.heap.size v1 bs from HG.out)
  clear HG0
  go_loopw [5, 6] (fun c5 c6 wr => ∃ j : Nat, j ≤ 8 ∧ c6 = .int .i64 j ∧ Hid (Grew w wr w.heap.size c5 (bs ++ (be8 x).take j))) (fun _ c6 _ => 8 - (intOf c6).toNat)
  case atStart => exact ⟨0, by omega, rfl, Lib.hid (by simpa using HG.out)⟩
  case round =>
    clear HG
    obtain ⟨j, hj, rfl, HG⟩ := hrel
    by_cases hlt : j < 8
    case neg =>
      obtain rfl : j = 8 := by omega
      rw [take_all8] at HG
      simp only [Int.cast_ofNat_Int]
      go_wp2_with fail
      go_ret
      exact ⟨_, rfl, HG.out.own, HG.out.bel⟩
    case pos =>
      have hd : decide ((j : Int) < 8) = true := by simp; omega
      have j0 : (0 : Int) ≤ (j : Int) := by omega
      have p0 : (0 : Int) ≤ 56 - 8 * (j : Int) := by omega
      have e0 : (56 - 8 * (j : Int)).toNat = 56 - 8 * j := by omega
      have hm0 : min (56 - 8 * j) 64 = 56 - 8 * j := by omega
      have hw1 : IntKind.i64.wrap ((j : Int) + 1) = (j : Int) + 1 := IntWalk.i64_in _ (by omega)
      have hw2 : IntKind.i64.wrap (8 * (j : Int)) = 8 * (j : Int) := IntWalk.i64_in _ (by omega)
      have hw3 : IntKind.i64.wrap (56 - 8 * (j : Int)) = 56 - 8 * (j : Int) := IntWalk.i64_in _ (by omega)
      have x0 := HUX.out.1
      have hpl : (bs ++ (be8 x).take j).length ≤ 20000 := by have := HL.out; simp [be8_len]; omega
      have HXM := Lib.hid (show (bs ++ (be8 x).take j).length + 1 ≤ maxLen by unfold maxLen; omega)
      have HXB := Lib.hid (show ((bs ++ (be8 x).take j).length + 1) * 1 ≤ 140737488355328 by omega)
      clear hpl
      go_wp2_with (at_builtin; (refine wpList_append_own _ rfl _ _ 30 rfl w.heap.size 5 i0 (.int .u8 0) 1 1 Tryd.underlying30 hi hz0 hz1 hz2 rfl (by decide) _ (bs ++ (be8 x).take j).length ((bs ++ (be8 x).take j).map (Value.int .u8)) rfl (HG.out.own.keep ((Below.refl _ _).alloc (Nat.le_refl _) _)) _ 1 1 [.int .u8 (x / 2 ^ (56 - 8 * j) % 256)] rfl rfl (fun j u hj => by cases j with | zero => simp at hj; subst hj; simp [go_sem] | succ j => simp at hj) (fun u hu => by simp at hu; subst hu; rfl) HXM.out HXB.out (HG.out.leA _) ?_); intro v4 w4 hown hgr hnil; have HG4 := Lib.hid (HG.out.snoc hown hgr); clear hown hgr hnil)
      go_roundw
      case rel => exact ⟨j + 1, by omega, by go_num, by rw [← be8_snoc x j hlt rfl, ← List.append_assoc]; exact HG4.out⟩
      case measure => simp [intOf]; omega
end Go.Proofs.YtlbldpkgnonbpaaDoor
/- schnorr.Challenge, schnorr.nonce; the reference's Nonce. -/
namespace Go.Proofs.YtlbldpkgnonbpaaDoor
open Go Go.RowKit Num Sha
set_option linter.unusedSimpArgs false
set_option linter.unusedVariables false

/-- A text in memory, beside the tables of the digest. -/
structure Txt (w : World) (a : Option Addr) (n : Nat) (T : List Int) : Prop where
  tabs : Tabs w
  sh : ShI .u8 w a n T
  by8 : ByteL T
theorem Txt.keep {w w' : World} {a : Option Addr} {n : Nat} {T : List Int} (h : Txt w a n T) (hb : Below w.heap.size w w') : Txt w' a n T := ⟨h.tabs.below hb, h.sh.keep hb, h.by8⟩
theorem Boxed.under {w w' : World} {B n : Nat} {P Q G : Int} (h : Boxed w B P Q G) (hb : Below n w w') (hn : B < n) : Boxed w' B P Q G :=
  ⟨(hb.cell (p := ⟨B, 0, none⟩) hn).trans h.c0, (hb.cell (p := ⟨B, 1, none⟩) hn).trans h.c1, (hb.cell (p := ⟨B, 2, none⟩) hn).trans h.c2, Nat.lt_of_lt_of_le h.lt hb.size⟩
theorem Boxed.laid {w w' : World} {B b q : Nat} {k : IntKind} {ys : List Int} {P Q G : Int} (h : Boxed w B P Q G) (hL : Laid k w w' b q ys) (hn : B ≠ b) : Boxed w' B P Q G :=
  ⟨(hL.cell _ _ hn).trans h.c0, (hL.cell _ _ hn).trans h.c1, (hL.cell _ _ hn).trans h.c2, by rw [hL.size]; exact h.lt⟩

/-- The code of a text that is too long, behind the other checks. -/
def lgS (a : Int) (n : Nat) : Int := if a = 0 then (if 8000 < n then 4 else 0) else a
theorem lgS_zero {a : Int} {n : Nat} (h : lgS a n = 0) : a = 0 ∧ n ≤ 8000 := by
  unfold lgS at h
  by_cases ha : a = 0
  · rw [if_pos ha] at h
    by_cases hn : 8000 < n
    · rw [if_pos hn] at h; omega
    · exact ⟨ha, by omega⟩
  · rw [if_neg ha] at h; exact absurd h ha
/-- The exponent of the digest of numbers and a text. -/
def chV (Q : Int) (ns T : List Int) : Int := beN ((shaS (flat8 ns ++ T)).take 8) % Q
theorem chV_range {Q : Int} (h : 0 < Q) (ns T : List Int) : 0 ≤ chV Q ns T ∧ chV Q ns T < Q := ⟨Int.emod_nonneg _ (by omega), Int.emod_lt_of_pos _ h⟩
/-- The nonce of a signature. -/
def noV (Q x : Int) (T : List Int) : Int := beN ((shaS (flat8 [x] ++ T)).take 8) % (Q - 1) + 1
theorem noV_range {Q : Int} (h : 2 ≤ Q) (x : Int) (T : List Int) : 0 ≤ noV Q x T ∧ noV Q x T < Q := by
  have h0 := Int.emod_nonneg (beN ((shaS (flat8 [x] ++ T)).take 8)) (b := Q - 1) (by omega)
  have h1 := Int.emod_lt_of_pos (beN ((shaS (flat8 [x] ++ T)).take 8)) (b := Q - 1) (by omega)
  exact ⟨by unfold noV; omega, by unfold noV; omega⟩


end Go.Proofs.YtlbldpkgnonbpaaDoor
/- The reference's Of, Nonce, Challenge. -/
namespace Go.Proofs.YtlbldpkgnonbpaaDoor
open Go Go.RowKit Num Sha
set_option linter.unusedSimpArgs false
set_option linter.unusedVariables false

theorem OwnB.shs {w : World} {n₀ : Nat} {v : Value} {xs : List Int} (h : OwnB w n₀ v xs) (h1 : 1 ≤ xs.length) : ∃ g c, v = .slice (Option.some ⟨g, 0, none⟩) xs.length c ∧ ShI .u8 w (Option.some ⟨g, 0, none⟩) xs.length xs := by
  obtain ⟨g, cap, rfl, -, -⟩ := h.some h1
  obtain ⟨a, c, e, hs⟩ := h.shi
  injection e with e1 e2 e3
  subst e1
  exact ⟨g, cap, rfl, hs⟩
theorem lgS_ok {a : Int} {n : Nat} (h : a = 0) (hn : n ≤ 8000) : lgS a n = 0 := by unfold lgS; rw [if_pos h, if_neg (by omega)]
theorem lgS_long {a : Int} {n : Nat} (h : a = 0) (hn : lgS a n ≠ 0) : 8000 < n := by
  by_cases h8 : 8000 < n
  · exact h8
  · exact absurd (lgS_ok h (by omega)) hn
theorem lgS_four {a : Int} {n : Nat} (h : a = 0) (hn : 8000 < n) : lgS a n = 4 := by unfold lgS; rw [if_pos h, if_pos hn]
theorem lgS_ne {a : Int} {n : Nat} (h : a ≠ 0) : lgS a n = a := by unfold lgS; rw [if_neg h]
theorem flat8_one (x : Int) : flat8 [x] = be8 x := by simp [flat8]



end Go.Proofs.YtlbldpkgnonbpaaDoor
