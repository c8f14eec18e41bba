/- Folded: HidW, HidX, HidY. -/
import Derived.Test.YtjfaaicbojnpaaaHid
import Derived.Deep.RegionLaw
import Derived.Deep.Cut
/- Rows of the call's own: a prefix; appending a shared row; one number put into a row. -/
namespace Go.Proofs.Ytjfaaicbojnpaaa
open Go Go.RowKit Num
set_option linter.unusedSimpArgs false
set_option linter.unusedVariables false

theorem OwnI.drew {W : World} {n₀ : Nat} {v : Value} {xs : List Int} (h : OwnI W n₀ v xs) : OwnI W.drew n₀ v xs := h.keep (Below.refl _ _).drew
theorem OwnU.drew' {W : World} {n₀ : Nat} {v : Value} {xs : List Int} (h : OwnU W n₀ v xs) : OwnU W.drew n₀ v xs := h.keep (Below.refl _ _).drew
set_option maxHeartbeats 1000000 in
/-- A shared row behind a slice of the call's own; the row may be nil. -/
theorem run_append_si (w : World) (ty : TypeId) {base : Nat} {v : Value} {xs bs : List Int} {a : Option Addr} {n c : Nat} (hown : OwnI w base v xs) (hs : ShI .i64 w a n bs) (hn : n ≤ 100000) (hx : xs.length ≤ 200000) (hb : base ≤ w.heap.size) :
    ∃ v' w', (Builtin.append_ #[51, 51] ty #[v, .slice a n c]).run Try.prog w = .ok v' w' ∧ OwnI w' base v' (xs ++ bs) ∧ w.grownBy w' v.ownBlock := by
  obtain ⟨i0, hi, hz0, hz1, hz2⟩ := info_parts (P := Try.prog) (e := 3) (z := .int .i64 0) (size := 1) (bytes := 8) (by kernel_rfl)
  have hl := hs.len
  cases a with
  | some ad =>
    obtain ⟨v', w', hr, h1, h2, -⟩ := run_append_own (P := Try.prog) w base 51 ty 3 i0 (.int .i64 0) 1 8 Try.underlying51 hi hz0 hz1 hz2 rfl (by decide) v xs.length (xs.map (Value.int IntKind.i64)) hown ad n c (bs.map (Value.int IntKind.i64)) (by rw [List.length_map, ← hl, Nat.mul_one]) hs.cells (fun u hu => by obtain ⟨x, -, rfl⟩ := List.mem_map.1 hu; rfl) (by unfold maxLen; omega) (by omega) hb
    refine ⟨v', w', hr, ?_, h2⟩
    unfold OwnI
    rw [List.length_append, List.map_append, ← hl]
    exact h1
  | none =>
    obtain ⟨rfl, rfl⟩ : n = 0 ∧ bs = [] := by
      rcases hs with h | ⟨s, o, h, -⟩
      · exact h
      · cases h
    refine ⟨v, w, ?_, by simpa using hown, World.grownBy.refl w _⟩
    rcases hown.2 with ⟨rfl, h0⟩ | ⟨g, cap, cur, rfl, -, -, hnc, -⟩
    · simp [Builtin.append_, run_underlying Try.underlying51, sizeOf, typeInfo, hi, hz1, Builtin.lenOf, storeCells, Builtin.firstCells, h0]
    · simp [Builtin.append_, run_underlying Try.underlying51, sizeOf, typeInfo, hi, hz1, Builtin.lenOf, storeCells, Builtin.firstCells, hnc]

section
variable {w : World} {ops : Array Oper} {rest : List Oper} {o : Oper} {act : Act} {Q : Exit → Act → World → Prop}
theorem wp_append_si {K : Act → World → Prop} (s x : Operand) (ho : o.op = .call { callee := .builtin .append, args := #[s, x], argTypes := #[51, 51] })
    (base : Nat) (v : Value) (xs bs : List Int) (a : Option Addr) (n c : Nat) (hv : act.eval s = v) (hx : act.eval x = .slice a n c) (hown : OwnI w base v xs) (hs : ShI .i64 w a n bs) (hn : n ≤ 100000) (hxs : xs.length ≤ 200000) (hb : base ≤ w.heap.size)
    (h : ∀ v' w', OwnI w' base v' (xs ++ bs) → w.grownBy w' v.ownBlock → K (act.put o.dst v') w') : o.wp Try.prog act w K Q := by
  obtain ⟨v', w', hr, h2, h3⟩ := run_append_si w o.type hown hs hn hxs hb (c := c)
  unfold Oper.wp execOp
  simp only [ho, resolve, invoke, builtin, Sem.run_bind, Sem.run_pure, Result.andThen_ok, List.map_toArray, List.map_cons, List.map_nil, hv, hx, hr]
  exact h v' w' h2 h3
end
/-- The shape of a row of the call's own. -/
theorem OwnI.shape {W : World} {n₀ : Nat} {v : Value} {xs : List Int} (h : OwnI W n₀ v xs) : (v = .slice none 0 0 ∧ xs = []) ∨ ∃ g cap, v = .slice (some ⟨g, 0, none⟩) xs.length cap ∧ n₀ ≤ g ∧ g < W.heap.size ∧ xs.length ≤ cap := by
  have hlt := World.ownsRow.lt h
  rcases h.2 with ⟨rfl, h0⟩ | ⟨g, cap, cur, rfl, b, c, d, _⟩
  · exact .inl ⟨rfl, List.length_eq_zero_iff.1 h0⟩
  · exact .inr ⟨g, cap, rfl, (hlt g rfl).1, (hlt g rfl).2, d⟩
/-- A prefix of such a row. -/
theorem OwnI.fore {W : World} {n₀ g cap : Nat} {xs : List Int} (h : OwnI W n₀ (.slice (some ⟨g, 0, none⟩) xs.length cap) xs) {k : Nat} (hk : k ≤ xs.length) : OwnI W n₀ (.slice (some ⟨g, 0, none⟩) k cap) (xs.take k) := by
  have hkl : (xs.take k).length = k := by rw [List.length_take]; omega
  refine ⟨by simp, ?_⟩
  rcases h.2 with ⟨h1, _⟩ | ⟨g', cap', cur, hv, b, c, d, e, f, i⟩
  · cases h1
  · injection hv with h1 h2 h3
    injection h1 with h1
    injection h1 with h1
    subst h1 h3
    rw [hkl]
    refine .inr ⟨g, cap, cur, rfl, b, c, by omega, e, f, ?_⟩
    rw [Nat.mul_one] at i ⊢
    rw [List.map_take, ← i, List.take_take, Nat.min_eq_left hk]
theorem OwnI.kept' {W W' : World} {row : Option Nat} {n₀ : Nat} {v : Value} {xs : List Int} (h : OwnI W n₀ v xs) (hg : W.grownBy W' row) (hne : v.ownBlock = none ∨ v.ownBlock ≠ row) : OwnI W' n₀ v xs := World.ownsRow.kept h hg hne
theorem OwnI.lit {W : World} {n₀ : Nat} {x : Int} (hn : n₀ ≤ W.heap.size) : OwnI (W.alloc (.cells #[.int .i64 x] 3)) n₀ (.slice (some ⟨W.heap.size, 0, none⟩) 1 1) [x] := World.ownsRow_lit (base := n₀) (e := 3) (size := 1) W #[.int .i64 x] 1 hn (by decide) rfl
set_option maxHeartbeats 1000000 in
/-- A shared row behind a slice of the call's own; the row may be nil. -/
theorem run_append_su (w : World) (ty : TypeId) {base : Nat} {v : Value} {xs bs : List Int} {a : Option Addr} {n c : Nat} (hown : OwnU w base v xs) (hs : ShI .u64 w a n bs) (hn : n ≤ 100000) (hx : xs.length ≤ 200000) (hb : base ≤ w.heap.size) :
    ∃ v' w', (Builtin.append_ #[25, 25] ty #[v, .slice a n c]).run Try.prog w = .ok v' w' ∧ OwnU w' base v' (xs ++ bs) ∧ w.grownBy w' v.ownBlock := by
  obtain ⟨i0, hi, hz0, hz1, hz2⟩ := info_parts (P := Try.prog) (e := 22) (z := .int .u64 0) (size := 1) (bytes := 8) (by kernel_rfl)
  have hl := hs.len
  cases a with
  | some ad =>
    obtain ⟨v', w', hr, h1, h2, -⟩ := run_append_own (P := Try.prog) w base 25 ty 22 i0 (.int .u64 0) 1 8 Try.underlying25 hi hz0 hz1 hz2 rfl (by decide) v xs.length (xs.map (Value.int IntKind.u64)) hown ad n c (bs.map (Value.int IntKind.u64)) (by rw [List.length_map, ← hl, Nat.mul_one]) hs.cells (fun u hu => by obtain ⟨x, -, rfl⟩ := List.mem_map.1 hu; rfl) (by unfold maxLen; omega) (by omega) hb
    refine ⟨v', w', hr, ?_, h2⟩
    unfold OwnU
    rw [List.length_append, List.map_append, ← hl]
    exact h1
  | none =>
    obtain ⟨rfl, rfl⟩ : n = 0 ∧ bs = [] := by
      rcases hs with h | ⟨s, o, h, -⟩
      · exact h
      · cases h
    refine ⟨v, w, ?_, by simpa using hown, World.grownBy.refl w _⟩
    rcases hown.2 with ⟨rfl, h0⟩ | ⟨g, cap, cur, rfl, -, -, hnc, -⟩
    · simp [Builtin.append_, run_underlying Try.underlying25, sizeOf, typeInfo, hi, hz1, Builtin.lenOf, storeCells, Builtin.firstCells, h0]
    · simp [Builtin.append_, run_underlying Try.underlying25, sizeOf, typeInfo, hi, hz1, Builtin.lenOf, storeCells, Builtin.firstCells, hnc]

section
variable {w : World} {ops : Array Oper} {rest : List Oper} {o : Oper} {act : Act} {Q : Exit → Act → World → Prop}
theorem wp_append_su {K : Act → World → Prop} (s x : Operand) (ho : o.op = .call { callee := .builtin .append, args := #[s, x], argTypes := #[25, 25] })
    (base : Nat) (v : Value) (xs bs : List Int) (a : Option Addr) (n c : Nat) (hv : act.eval s = v) (hx : act.eval x = .slice a n c) (hown : OwnU w base v xs) (hs : ShI .u64 w a n bs) (hn : n ≤ 100000) (hxs : xs.length ≤ 200000) (hb : base ≤ w.heap.size)
    (h : ∀ v' w', OwnU w' base v' (xs ++ bs) → w.grownBy w' v.ownBlock → K (act.put o.dst v') w') : o.wp Try.prog act w K Q := by
  obtain ⟨v', w', hr, h2, h3⟩ := run_append_su w o.type hown hs hn hxs hb (c := c)
  unfold Oper.wp execOp
  simp only [ho, resolve, invoke, builtin, Sem.run_bind, Sem.run_pure, Result.andThen_ok, List.map_toArray, List.map_cons, List.map_nil, hv, hx, hr]
  exact h v' w' h2 h3
end
/-- The shape of a row of the call's own. -/
theorem OwnU.shape {W : World} {n₀ : Nat} {v : Value} {xs : List Int} (h : OwnU W n₀ v xs) : (v = .slice none 0 0 ∧ xs = []) ∨ ∃ g cap, v = .slice (some ⟨g, 0, none⟩) xs.length cap ∧ n₀ ≤ g ∧ g < W.heap.size ∧ xs.length ≤ cap := by
  have hlt := World.ownsRow.lt h
  rcases h.2 with ⟨rfl, h0⟩ | ⟨g, cap, cur, rfl, b, c, d, _⟩
  · exact .inl ⟨rfl, List.length_eq_zero_iff.1 h0⟩
  · exact .inr ⟨g, cap, rfl, (hlt g rfl).1, (hlt g rfl).2, d⟩
/-- A prefix of such a row. -/
theorem OwnU.fore {W : World} {n₀ g cap : Nat} {xs : List Int} (h : OwnU W n₀ (.slice (some ⟨g, 0, none⟩) xs.length cap) xs) {k : Nat} (hk : k ≤ xs.length) : OwnU W n₀ (.slice (some ⟨g, 0, none⟩) k cap) (xs.take k) := by
  have hkl : (xs.take k).length = k := by rw [List.length_take]; omega
  refine ⟨by simp, ?_⟩
  rcases h.2 with ⟨h1, _⟩ | ⟨g', cap', cur, hv, b, c, d, e, f, i⟩
  · cases h1
  · injection hv with h1 h2 h3
    injection h1 with h1
    injection h1 with h1
    subst h1 h3
    rw [hkl]
    refine .inr ⟨g, cap, cur, rfl, b, c, by omega, e, f, ?_⟩
    rw [Nat.mul_one] at i ⊢
    rw [List.map_take, ← i, List.take_take, Nat.min_eq_left hk]
theorem OwnU.kept' {W W' : World} {row : Option Nat} {n₀ : Nat} {v : Value} {xs : List Int} (h : OwnU W n₀ v xs) (hg : W.grownBy W' row) (hne : v.ownBlock = none ∨ v.ownBlock ≠ row) : OwnU W' n₀ v xs := World.ownsRow.kept h hg hne
theorem OwnU.lit {W : World} {n₀ : Nat} {x : Int} (hn : n₀ ≤ W.heap.size) : OwnU (W.alloc (.cells #[.int .u64 x] 22)) n₀ (.slice (some ⟨W.heap.size, 0, none⟩) 1 1) [x] := World.ownsRow_lit (base := n₀) (e := 22) (size := 1) W #[.int .u64 x] 1 hn (by decide) rfl
end Go.Proofs.Ytjfaaicbojnpaaa
/- One number put into a row of the call's own: what the two appends leave. -/
namespace Go.Proofs.Ytjfaaicbojnpaaa
open Go Go.RowKit Num
set_option linter.unusedSimpArgs false
set_option linter.unusedVariables false

theorem wanted_wp {P : Program} {ops : Array Oper} {o : Oper} {a : Act} {w : World} {K : Act → World → Prop} {Q : Exit → Act → World → Prop} {E : Prop} (hg : o.guard = none) (h : Oper.wp P o a w K Q) : if Region.wanted o (yielded ops a.tmps) = true then Oper.wp P o a w K Q else E := by
  have hw : Region.wanted o (yielded ops a.tmps) = true := by simp [Region.wanted, hg]
  rw [if_pos hw]
  exact h
theorem ShI.drop {q : IntKind} {W : World} {g l i : Nat} {xs : List Int} (h : ShI q W (some ⟨g, 0, none⟩) l xs) : ShI q W (some ⟨g, i, none⟩) (l - i) (xs.drop i) := by
  have hl := h.len
  subst hl
  rcases h with ⟨h1, rfl⟩ | ⟨s, o, h0, h1, h2, h3⟩
  · exact .inl ⟨by simp, by simp⟩
  · cases h0
    refine .inr ⟨g, i, rfl, by simp, h2, fun k hk => ?_⟩
    have hk2 : i + k < xs.length := by simp at hk; omega
    have := h3 (i + k) hk2
    rw [show 0 + (i + k) = i + k by omega] at this
    rw [this]
    congr 2
    simp [List.getD_eq_getElem?_getD]
theorem OwnI.cut {W : World} {n₀ l gc i : Nat} {ga : Option Addr} {xs : List Int} (h : OwnI W n₀ (.slice ga l gc) xs) (hi : i ≤ l) :
    (ga = none ∧ l = 0 ∧ gc = 0 ∧ i = 0 ∧ xs = []) ∨ ∃ g A, ga = some ⟨g, 0, none⟩ ∧ l ≤ gc ∧ (if gc = i then some ⟨g, 0, none⟩ else some ⟨g, i, none⟩ : Option Addr) = A ∧ ShI .i64 W A (l - i) (xs.drop i) ∧ OwnI W n₀ (.slice (some ⟨g, 0, none⟩) i gc) (xs.take i) := by
  rcases h.shape with ⟨h1, h2⟩ | ⟨g, cap, hv, h1, h2, h3⟩
  · injection h1 with a b c
    exact .inl ⟨a, b, c, by omega, h2⟩
  · injection hv with a b c
    subst a b c
    obtain ⟨a', c', h4, h5⟩ := h.shI
    injection h4 with e1 e2 e3
    subst e1
    refine .inr ⟨g, _, rfl, h3, rfl, ?_, h.fore hi⟩
    split
    · next e =>
      have : i = xs.length := by omega
      subst this
      exact .inl ⟨by simp, by simp⟩
    · exact h5.drop
theorem ins1_i {wk wr w8 : World} {x : Int} {p v8 vv : Value} {ps ts ys : List Int} (hb : Below wk.heap.size wk wr) (hp : OwnI wr wk.heap.size p ps) (hv : OwnU wr wk.heap.size vv ys)
    (h8 : OwnI w8 wk.heap.size v8 ([x] ++ ts)) (hg : ((wr.alloc (.cells #[.int .i64 x] 3)).drew).grownBy w8 (some wr.heap.size)) :
    ∃ a8 m8 c8, v8 = .slice a8 m8 c8 ∧ m8 = ts.length + 1 ∧ ShI .i64 w8 a8 m8 (x :: ts) ∧ OwnI w8 wk.heap.size p ps ∧ OwnU w8 wk.heap.size vv ys ∧ Below wk.heap.size wk w8 ∧ wk.heap.size ≤ w8.heap.size := by
  have hz := hb.size
  have k1 : Below wr.heap.size wr (wr.alloc (.cells #[.int .i64 x] 3)).drew := ((Below.refl _ _).alloc (Nat.le_refl _) _).drew
  have h2 : Below wk.heap.size (wr.alloc (.cells #[.int .i64 x] 3)).drew w8 := Below.row hg (fun k hk => by cases hk; exact hz) (by have := k1.size; omega)
  have h3 := (hb.trans (k1.mono hz)).trans h2
  obtain ⟨a8, c8, e8, hs⟩ := h8.shI
  refine ⟨a8, _, c8, e8, by simp, hs, World.ownsRow.kept (hp.keep k1) hg ?_, World.ownsRow.kept (hv.keep k1) hg ?_, h3, h3.size⟩
  · cases e : p.ownBlock with
    | none => exact .inl rfl
    | some k => have := hp.lt k e; exact .inr (fun h => by cases h; omega)
  · cases e : vv.ownBlock with
    | none => exact .inl rfl
    | some k => have := hv.lt k e; exact .inr (fun h => by cases h; omega)
theorem ins2_i {wk w8 w9 : World} {p v9 vv : Value} {ps zs ys : List Int} (hb : Below wk.heap.size wk w8) (hp' : OwnI w8 wk.heap.size p ps) (hv' : OwnU w8 wk.heap.size vv ys)
    (h9 : OwnI w9 wk.heap.size v9 (ps ++ zs)) (hg : w8.grownBy w9 p.ownBlock) :
    ∃ a9 m9 c9, v9 = .slice a9 m9 c9 ∧ m9 = ps.length + zs.length ∧ OwnI w9 wk.heap.size (.slice a9 m9 c9) (ps ++ zs) ∧ OwnU w9 wk.heap.size vv ys ∧ Below wk.heap.size wk w9 ∧ wk.heap.size ≤ w9.heap.size := by
  have h2 : Below wk.heap.size w8 w9 := Below.row hg (fun k hk => (hp'.lt k hk).1) hb.size
  have h3 := hb.trans h2
  obtain ⟨a9, c9, e9, -⟩ := h9.shI
  subst e9
  exact ⟨a9, _, c9, rfl, by simp, h9, World.ownsRow.kept hv' hg (own_diff hp' hv' (show (3 : Nat) ≠ 22 by decide)), h3, h3.size⟩
theorem OwnU.cut {W : World} {n₀ l gc i : Nat} {ga : Option Addr} {xs : List Int} (h : OwnU W n₀ (.slice ga l gc) xs) (hi : i ≤ l) :
    (ga = none ∧ l = 0 ∧ gc = 0 ∧ i = 0 ∧ xs = []) ∨ ∃ g A, ga = some ⟨g, 0, none⟩ ∧ l ≤ gc ∧ (if gc = i then some ⟨g, 0, none⟩ else some ⟨g, i, none⟩ : Option Addr) = A ∧ ShI .u64 W A (l - i) (xs.drop i) ∧ OwnU W n₀ (.slice (some ⟨g, 0, none⟩) i gc) (xs.take i) := by
  rcases h.shape with ⟨h1, h2⟩ | ⟨g, cap, hv, h1, h2, h3⟩
  · injection h1 with a b c
    exact .inl ⟨a, b, c, by omega, h2⟩
  · injection hv with a b c
    subst a b c
    obtain ⟨a', c', h4, h5⟩ := h.shI
    injection h4 with e1 e2 e3
    subst e1
    refine .inr ⟨g, _, rfl, h3, rfl, ?_, h.fore hi⟩
    split
    · next e =>
      have : i = xs.length := by omega
      subst this
      exact .inl ⟨by simp, by simp⟩
    · exact h5.drop
theorem ins1_u {wk wr w8 : World} {x : Int} {p v8 vv : Value} {ps ts ys : List Int} (hb : Below wk.heap.size wk wr) (hp : OwnU wr wk.heap.size p ps) (hv : OwnI wr wk.heap.size vv ys)
    (h8 : OwnU w8 wk.heap.size v8 ([x] ++ ts)) (hg : ((wr.alloc (.cells #[.int .u64 x] 22)).drew).grownBy w8 (some wr.heap.size)) :
    ∃ a8 m8 c8, v8 = .slice a8 m8 c8 ∧ m8 = ts.length + 1 ∧ ShI .u64 w8 a8 m8 (x :: ts) ∧ OwnU w8 wk.heap.size p ps ∧ OwnI w8 wk.heap.size vv ys ∧ Below wk.heap.size wk w8 ∧ wk.heap.size ≤ w8.heap.size := by
  have hz := hb.size
  have k1 : Below wr.heap.size wr (wr.alloc (.cells #[.int .u64 x] 22)).drew := ((Below.refl _ _).alloc (Nat.le_refl _) _).drew
  have h2 : Below wk.heap.size (wr.alloc (.cells #[.int .u64 x] 22)).drew w8 := Below.row hg (fun k hk => by cases hk; exact hz) (by have := k1.size; omega)
  have h3 := (hb.trans (k1.mono hz)).trans h2
  obtain ⟨a8, c8, e8, hs⟩ := h8.shI
  refine ⟨a8, _, c8, e8, by simp, hs, World.ownsRow.kept (hp.keep k1) hg ?_, World.ownsRow.kept (hv.keep k1) hg ?_, h3, h3.size⟩
  · cases e : p.ownBlock with
    | none => exact .inl rfl
    | some k => have := hp.lt k e; exact .inr (fun h => by cases h; omega)
  · cases e : vv.ownBlock with
    | none => exact .inl rfl
    | some k => have := hv.lt k e; exact .inr (fun h => by cases h; omega)
theorem ins2_u {wk w8 w9 : World} {p v9 vv : Value} {ps zs ys : List Int} (hb : Below wk.heap.size wk w8) (hp' : OwnU w8 wk.heap.size p ps) (hv' : OwnI w8 wk.heap.size vv ys)
    (h9 : OwnU w9 wk.heap.size v9 (ps ++ zs)) (hg : w8.grownBy w9 p.ownBlock) :
    ∃ a9 m9 c9, v9 = .slice a9 m9 c9 ∧ m9 = ps.length + zs.length ∧ OwnU w9 wk.heap.size (.slice a9 m9 c9) (ps ++ zs) ∧ OwnI w9 wk.heap.size vv ys ∧ Below wk.heap.size wk w9 ∧ wk.heap.size ≤ w9.heap.size := by
  have h2 : Below wk.heap.size w8 w9 := Below.row hg (fun k hk => (hp'.lt k hk).1) hb.size
  have h3 := hb.trans h2
  obtain ⟨a9, c9, e9, -⟩ := h9.shI
  subst e9
  exact ⟨a9, _, c9, rfl, by simp, h9, World.ownsRow.kept hv' hg (own_diff hp' hv' (show (22 : Nat) ≠ 3 by decide)), h3, h3.size⟩
end Go.Proofs.Ytjfaaicbojnpaaa
/- One number ahead of a row, in a region that draws its order. -/
namespace Go.Proofs.Ytjfaaicbojnpaaa
open Go Go.RowKit Num
set_option linter.unusedSimpArgs false
set_option linter.unusedVariables false

theorem below_al {w W : World} {o : Obj} (h : Below w.heap.size w W) : Below w.heap.size w (W.alloc o) := h.alloc h.size o
theorem OwnI.al {W : World} {n₀ : Nat} {v : Value} {xs : List Int} {o : Obj} (h : OwnI W n₀ v xs) : OwnI (W.alloc o) n₀ v xs := h.keep ((Below.refl _ _).alloc (Nat.le_refl _) o)
theorem OwnI.dr {W : World} {n₀ : Nat} {v : Value} {xs : List Int} (h : OwnI W n₀ v xs) : OwnI W.drew n₀ v xs := h.keep (Below.refl _ _).drew
theorem OwnI.lat {W : World} {n₀ b : Nat} {x : Int} (hb : b = W.heap.size) (hn : n₀ ≤ b) : OwnI (W.alloc (.cells #[.int .i64 x] 3)) n₀ (.slice (some ⟨b, 0, none⟩) 1 1) [x] := by
  subst hb
  exact OwnI.lit hn
theorem OwnI.sh {W : World} {n₀ n c : Nat} {a : Option Addr} {xs : List Int} (h : OwnI W n₀ (.slice a n c) xs) : ShI .i64 W a n xs := by
  obtain ⟨a', c', e, hs⟩ := h.shI
  injection e with e1 e2 e3
  subst e1 e2
  exact hs
theorem ahead_i {wr W w8 : World} {b n : Nat} {x : Int} {v8 : Value} {xs : List Int} (hl : xs.length + 1 = n) (hW : Below wr.heap.size wr W) (hb : wr.heap.size ≤ b) (h8 : OwnI w8 wr.heap.size v8 ([x] ++ xs)) (hg : W.grownBy w8 (some b)) :
    ∃ a m c, v8 = .slice a m c ∧ n = m ∧ OwnI w8 wr.heap.size (.slice a m c) (x :: xs) ∧ Below wr.heap.size wr w8 := by
  obtain ⟨a, c, e, -⟩ := h8.shI
  subst e
  exact ⟨a, _, c, rfl, by simp; omega, h8, hW.grown hg hW.size (fun k hk => by cases hk; exact hb)⟩
theorem other_i {W w8 : World} {n₀ b : Nat} {x : Int} {v : Value} {ys : List Int} (hl : OwnI W n₀ (.slice (some ⟨b, 0, none⟩) 1 1) [x]) (hv : OwnU W n₀ v ys) (hg : W.grownBy w8 (some b)) : OwnU w8 n₀ v ys :=
  World.ownsRow.kept hv hg (own_diff hl hv (show (3 : Nat) ≠ 22 by decide))
theorem OwnU.al {W : World} {n₀ : Nat} {v : Value} {xs : List Int} {o : Obj} (h : OwnU W n₀ v xs) : OwnU (W.alloc o) n₀ v xs := h.keep ((Below.refl _ _).alloc (Nat.le_refl _) o)
theorem OwnU.dr {W : World} {n₀ : Nat} {v : Value} {xs : List Int} (h : OwnU W n₀ v xs) : OwnU W.drew n₀ v xs := h.keep (Below.refl _ _).drew
theorem OwnU.lat {W : World} {n₀ b : Nat} {x : Int} (hb : b = W.heap.size) (hn : n₀ ≤ b) : OwnU (W.alloc (.cells #[.int .u64 x] 22)) n₀ (.slice (some ⟨b, 0, none⟩) 1 1) [x] := by
  subst hb
  exact OwnU.lit hn
theorem OwnU.sh {W : World} {n₀ n c : Nat} {a : Option Addr} {xs : List Int} (h : OwnU W n₀ (.slice a n c) xs) : ShI .u64 W a n xs := by
  obtain ⟨a', c', e, hs⟩ := h.shI
  injection e with e1 e2 e3
  subst e1 e2
  exact hs
theorem ahead_u {wr W w8 : World} {b n : Nat} {x : Int} {v8 : Value} {xs : List Int} (hl : xs.length + 1 = n) (hW : Below wr.heap.size wr W) (hb : wr.heap.size ≤ b) (h8 : OwnU w8 wr.heap.size v8 ([x] ++ xs)) (hg : W.grownBy w8 (some b)) :
    ∃ a m c, v8 = .slice a m c ∧ n = m ∧ OwnU w8 wr.heap.size (.slice a m c) (x :: xs) ∧ Below wr.heap.size wr w8 := by
  obtain ⟨a, c, e, -⟩ := h8.shI
  subst e
  exact ⟨a, _, c, rfl, by simp; omega, h8, hW.grown hg hW.size (fun k hk => by cases hk; exact hb)⟩
theorem other_u {W w8 : World} {n₀ b : Nat} {x : Int} {v : Value} {ys : List Int} (hl : OwnU W n₀ (.slice (some ⟨b, 0, none⟩) 1 1) [x]) (hv : OwnI W n₀ v ys) (hg : W.grownBy w8 (some b)) : OwnI w8 n₀ v ys :=
  World.ownsRow.kept hv hg (own_diff hl hv (show (22 : Nat) ≠ 3 by decide))
end Go.Proofs.Ytjfaaicbojnpaaa
