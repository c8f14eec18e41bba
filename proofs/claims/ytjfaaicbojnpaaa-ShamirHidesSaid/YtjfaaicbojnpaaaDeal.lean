/- Own slices of numbers; a deal in memory: two slices in the two cells of a block, each of them the call's own. -/
import Derived.Test.YtjfaaicbojnpaaaRowI
import Derived.Test.YtjfaaicbojnpaaaPairZ
import Derived.Test.YtjfaaicbojnpaaaStageG
import Derived.Maps.AppendAt
namespace Go.Proofs.Ytjfaaicbojnpaaa
open Go.RowKit Num
set_option linter.unusedSimpArgs false
set_option linter.unusedVariables false

/-- A slice of numbers that the call itself made. -/
def OwnU (W : World) (n₀ : Nat) (v : Value) (xs : List Int) : Prop := W.ownsRow n₀ 22 1 v xs.length (xs.map (Value.int IntKind.u64))
theorem OwnU.nil (W : World) (n₀ : Nat) : OwnU W n₀ (.slice none 0 0) [] := World.ownsRow_nil _ _ _ _
theorem OwnU.shI {W : World} {n₀ : Nat} {v : Value} {xs : List Int} (h : OwnU W n₀ v xs) : ∃ a c, v = .slice a xs.length c ∧ ShI .u64 W a xs.length xs := ShI.of_owned h
theorem OwnU.lt {W : World} {n₀ : Nat} {v : Value} {xs : List Int} (h : OwnU W n₀ v xs) : ∀ k, v.ownBlock = some k → n₀ ≤ k ∧ k < W.heap.size := World.ownsRow.lt h
theorem OwnU.keep {W W' : World} {n₀ : Nat} {v : Value} {xs : List Int} (h : OwnU W n₀ v xs) (hb : Below W.heap.size W W') : OwnU W' n₀ v xs :=
  World.ownsRow.kept (row := none) h ⟨hb.os, hb.tape, hb.output, hb.size, fun k hk _ => hb.block k hk⟩ (by cases v.ownBlock <;> simp)
theorem OwnU.far {W : World} {n₀ : Nat} {v : Value} {xs : List Int} (h : OwnU W n₀ v xs) {b o : Nat} (hb : b < n₀) (u : Value) : OwnU (W.setCell ⟨b, o, none⟩ u) n₀ v xs := ownsRow_setCell_below h hb u
theorem OwnU.mono {W : World} {n₀ n₁ : Nat} {v : Value} {xs : List Int} (h : OwnU W n₁ v xs) (hn : n₀ ≤ n₁) : OwnU W n₀ v xs := by
  refine ⟨h.1, ?_⟩
  rcases h.2 with h2 | ⟨g, cap, cur, a, b, c⟩
  · exact .inl h2
  · exact .inr ⟨g, cap, cur, a, Nat.le_trans hn b, c⟩
theorem Below.row {n : Nat} {W W' : World} {r : Option Nat} (hg : W.grownBy W' r) (hr : ∀ k, r = some k → n ≤ k) (hn : n ≤ W.heap.size) : Below n W W' :=
  ⟨hg.os, hg.tape, hg.output, hg.size, fun k hk => hg.block k (Nat.lt_of_lt_of_le hk hn) (fun e => by have := hr k e.symm; omega)⟩

/-- A struct of two such slices. -/
structure DealAt (W : World) (B n₀ : Nat) (v1 v2 : Value) (xs ys : List Int) : Prop where
  c0 : W.cell? ⟨B, 0, none⟩ = some v1
  c1 : W.cell? ⟨B, 1, none⟩ = some v2
  f0 : W.frozen? ⟨B, 0, none⟩ = false
  f1 : W.frozen? ⟨B, 1, none⟩ = false
  hb : B < n₀
  lt : n₀ ≤ W.heap.size
  r1 : OwnU W n₀ v1 xs
  r2 : OwnU W n₀ v2 ys
  ap : v1.ownBlock = none ∨ v1.ownBlock ≠ v2.ownBlock

theorem DealAt.new (W : World) (T : TypeId) : DealAt (W.alloc (.cells #[.slice none 0 0, .slice none 0 0] T)) W.heap.size (W.heap.size + 1) (.slice none 0 0) (.slice none 0 0) [] [] := by
  refine ⟨?_, ?_, ?_, ?_, Nat.lt_succ_self _, by simp, OwnU.nil _ _, OwnU.nil _ _, .inl rfl⟩
  · rw [World.cell?_alloc_new]; rfl
  · rw [World.cell?_alloc_new]; rfl
  · simp
  · simp
theorem DealAt.at (W : World) (T : TypeId) (b : Nat) (hb : b = W.heap.size) : DealAt (W.alloc (.cells #[.slice none 0 0, .slice none 0 0] T)) b (b + 1) (.slice none 0 0) (.slice none 0 0) [] [] := by subst hb; exact DealAt.new W T
theorem DealAt.keep {W W' : World} {B n₀ : Nat} {v1 v2 : Value} {xs ys : List Int} (h : DealAt W B n₀ v1 v2 xs ys) (hb : Below W.heap.size W W') : DealAt W' B n₀ v1 v2 xs ys := by
  have hB : B < W.heap.size := Nat.lt_of_lt_of_le h.hb h.lt
  exact ⟨(hb.cell (p := ⟨B, 0, none⟩) hB).trans h.c0, (hb.cell (p := ⟨B, 1, none⟩) hB).trans h.c1, (hb.frozen (p := ⟨B, 0, none⟩) hB).trans h.f0, (hb.frozen (p := ⟨B, 1, none⟩) hB).trans h.f1, h.hb, Nat.le_trans h.lt hb.size, h.r1.keep hb, h.r2.keep hb, h.ap⟩
theorem DealAt.drew {W : World} {B n₀ : Nat} {v1 v2 : Value} {xs ys : List Int} (h : DealAt W B n₀ v1 v2 xs ys) : DealAt W.drew B n₀ v1 v2 xs ys := h.keep (Below.refl _ _).drew
theorem DealAt.alloc {W : World} {B n₀ : Nat} {v1 v2 : Value} {xs ys : List Int} (h : DealAt W B n₀ v1 v2 xs ys) (o : Obj) : DealAt (W.alloc o) B n₀ v1 v2 xs ys := h.keep ((Below.refl _ _).alloc (Nat.le_refl _) o)

theorem own_apart {W w1 : World} {n₀ : Nat} {v v' u : Value} {ys : List Int} (hr : OwnU W n₀ u ys) (hap : v.ownBlock = none ∨ v.ownBlock ≠ u.ownBlock) (hat : v'.ownBlock = v.ownBlock ∨ v'.ownBlock = some W.heap.size) : v'.ownBlock = none ∨ v'.ownBlock ≠ u.ownBlock := by
  rcases hat with h | h
  · rw [h]; exact hap
  · refine .inr fun e => ?_
    have := (hr.lt W.heap.size (by rw [← e, h])).2
    omega
theorem own_kept {W w1 : World} {n₀ : Nat} {v u : Value} {ys : List Int} (hr : OwnU W n₀ u ys) (hg : W.grownBy w1 v.ownBlock) (hap : v.ownBlock = none ∨ v.ownBlock ≠ u.ownBlock) : OwnU w1 n₀ u ys := by
  refine World.ownsRow.kept hr hg ?_
  rcases hap with h | h
  · rw [h]; cases hu : u.ownBlock <;> simp
  · exact .inr (Ne.symm h)
theorem DealAt.grown {W w1 : World} {B n₀ : Nat} {v1 v2 u : Value} {xs ys : List Int} (h : DealAt W B n₀ v1 v2 xs ys) (hg : W.grownBy w1 u.ownBlock) (hu : ∀ k, u.ownBlock = some k → n₀ ≤ k) :
    w1.cell? ⟨B, 0, none⟩ = some v1 ∧ w1.cell? ⟨B, 1, none⟩ = some v2 ∧ w1.frozen? ⟨B, 0, none⟩ = false ∧ w1.frozen? ⟨B, 1, none⟩ = false ∧ n₀ ≤ w1.heap.size ∧ Below n₀ W w1 := by
  have hb := Below.row hg hu h.lt
  exact ⟨(hb.cell (p := ⟨B, 0, none⟩) h.hb).trans h.c0, (hb.cell (p := ⟨B, 1, none⟩) h.hb).trans h.c1, (hb.frozen (p := ⟨B, 0, none⟩) h.hb).trans h.f0, (hb.frozen (p := ⟨B, 1, none⟩) h.hb).trans h.f1, Nat.le_trans h.lt hb.size, hb⟩

/-- Behind 'd.x = append(d.x, y)', the first field. -/
theorem DealAt.push1 {W w1 : World} {B n₀ : Nat} {v1 v2 v' : Value} {xs ys : List Int} {x : Int} (h : DealAt W B n₀ v1 v2 xs ys) (hown : w1.ownsRow n₀ 22 1 v' (xs.length + 1) (xs.map (Value.int IntKind.u64) ++ [.int .u64 x]))
    (hg : W.grownBy w1 v1.ownBlock) (hat : v'.ownBlock = v1.ownBlock ∨ v'.ownBlock = some W.heap.size) :
    DealAt (w1.setCell ⟨B, 0, none⟩ v') B n₀ v' v2 (xs ++ [x]) ys ∧ Below B W (w1.setCell ⟨B, 0, none⟩ v') := by
  obtain ⟨a0, a1, a2, a3, a4, a5⟩ := h.grown hg (fun k hk => (h.r1.lt k hk).1)
  have hown' : OwnU w1 n₀ v' (xs ++ [x]) := by unfold OwnU; rw [List.length_append, List.map_append]; exact hown
  refine ⟨⟨World.cell?_setCell_same' _ _ _ (by rw [a0]; rfl), ?_, ?_, ?_, h.hb, by simpa using a4, hown'.far h.hb _, (own_kept h.r2 hg h.ap).far h.hb _, own_apart (w1 := w1) h.r2 h.ap hat⟩, (a5.mono (Nat.le_of_lt h.hb)).setCell (p := ⟨B, 0, none⟩) (Nat.le_refl _) _⟩
  · rw [World.cell?_setCell_other _ _ _ _ (by simp)]; exact a1
  · rw [World.frozen?_setCell]; exact a2
  · rw [World.frozen?_setCell]; exact a3
/-- Behind 'd.y = append(d.y, x)', the second field. -/
theorem DealAt.push2 {W w1 : World} {B n₀ : Nat} {v1 v2 v' : Value} {xs ys : List Int} {x : Int} (h : DealAt W B n₀ v1 v2 xs ys) (hown : w1.ownsRow n₀ 22 1 v' (ys.length + 1) (ys.map (Value.int IntKind.u64) ++ [.int .u64 x]))
    (hg : W.grownBy w1 v2.ownBlock) (hat : v'.ownBlock = v2.ownBlock ∨ v'.ownBlock = some W.heap.size) :
    DealAt (w1.setCell ⟨B, 1, none⟩ v') B n₀ v1 v' xs (ys ++ [x]) ∧ Below B W (w1.setCell ⟨B, 1, none⟩ v') := by
  obtain ⟨a0, a1, a2, a3, a4, a5⟩ := h.grown hg (fun k hk => (h.r2.lt k hk).1)
  have hown' : OwnU w1 n₀ v' (ys ++ [x]) := by unfold OwnU; rw [List.length_append, List.map_append]; exact hown
  have hap : v2.ownBlock = none ∨ v2.ownBlock ≠ v1.ownBlock := by
    rcases h.ap with h1 | h1
    · rw [h1]; cases v2.ownBlock <;> simp
    · exact .inr (Ne.symm h1)
  have hap' : v1.ownBlock = none ∨ v1.ownBlock ≠ v'.ownBlock := by
    rcases own_apart (w1 := w1) h.r1 hap hat with h1 | h1
    · rw [h1]; cases v1.ownBlock <;> simp
    · exact .inr (Ne.symm h1)
  refine ⟨⟨?_, World.cell?_setCell_same' _ _ _ (by rw [a1]; rfl), ?_, ?_, h.hb, by simpa using a4, (own_kept h.r1 hg hap).far h.hb _, hown'.far h.hb _, hap'⟩, (a5.mono (Nat.le_of_lt h.hb)).setCell (p := ⟨B, 1, none⟩) (Nat.le_refl _) _⟩
  · rw [World.cell?_setCell_other _ _ _ _ (by simp)]; exact a0
  · rw [World.frozen?_setCell]; exact a2
  · rw [World.frozen?_setCell]; exact a3
/-- A pair of slices by value in the two cells of a block. -/
structure DealBox (W : World) (B : Nat) (v1 v2 : Value) : Prop where
  c0 : W.cell? ⟨B, 0, none⟩ = some v1
  c1 : W.cell? ⟨B, 1, none⟩ = some v2
  f0 : W.frozen? ⟨B, 0, none⟩ = false
  f1 : W.frozen? ⟨B, 1, none⟩ = false
  lt : B < W.heap.size
theorem DealBox.at (W : World) (v1 v2 : Value) (T : TypeId) (b : Nat) (hb : b = W.heap.size) : DealBox (W.alloc (.cells #[v1, v2] T)) b v1 v2 := by
  subst hb
  refine ⟨?_, ?_, ?_, ?_, by simp⟩
  · rw [World.cell?_alloc_new]; rfl
  · rw [World.cell?_alloc_new]; rfl
  · simp
  · simp
theorem DealBox.keepN {W W' : World} {B n : Nat} {v1 v2 : Value} (h : DealBox W B v1 v2) (hb : Below n W W') (hn : B < n) : DealBox W' B v1 v2 :=
  ⟨(hb.cell (p := ⟨B, 0, none⟩) hn).trans h.c0, (hb.cell (p := ⟨B, 1, none⟩) hn).trans h.c1, (hb.frozen (p := ⟨B, 0, none⟩) hn).trans h.f0, (hb.frozen (p := ⟨B, 1, none⟩) hn).trans h.f1, Nat.lt_of_lt_of_le h.lt hb.size⟩
theorem DealBox.keep {W W' : World} {B : Nat} {v1 v2 : Value} (h : DealBox W B v1 v2) (hb : Below W.heap.size W W') : DealBox W' B v1 v2 := h.keepN hb h.lt
theorem DealBox.drew {W : World} {B : Nat} {v1 v2 : Value} (h : DealBox W B v1 v2) : DealBox W.drew B v1 v2 := h.keep (Below.refl _ _).drew
theorem DealBox.alloc {W : World} {B : Nat} {v1 v2 : Value} (h : DealBox W B v1 v2) (o : Obj) : DealBox (W.alloc o) B v1 v2 := h.keep ((Below.refl _ _).alloc (Nat.le_refl _) o)
theorem DealBox.stored {W : World} {B : Nat} {v1 v2 : Value} (h : DealBox W B v1 v2) (u1 u2 : Value) : DealBox ((W.setCell ⟨B, 0, none⟩ u1).setCell ⟨B, 1, none⟩ u2) B u1 u2 := by
  refine ⟨?_, ?_, ?_, ?_, by simpa using h.lt⟩
  · rw [World.cell?_setCell_other _ _ _ _ (by simp)]; exact World.cell?_setCell_same' _ _ _ (by rw [h.c0]; rfl)
  · refine World.cell?_setCell_same' _ _ _ ?_
    rw [World.cell?_setCell_other _ _ _ _ (by simp), h.c1]; rfl
  · rw [World.frozen?_setCell, World.frozen?_setCell]; exact h.f0
  · rw [World.frozen?_setCell, World.frozen?_setCell]; exact h.f1
theorem Boxed.keepN {w w' : World} {B n : Nat} {P Q G : Int} (h : Boxed w B P Q G) (hb : Below n w w') (hn : B < n) : Boxed w' B P Q G :=
  ⟨(hb.cell (p := ⟨B, 0, none⟩) hn).trans h.c0, (hb.cell (p := ⟨B, 1, none⟩) hn).trans h.c1, (hb.cell (p := ⟨B, 2, none⟩) hn).trans h.c2, Nat.lt_of_lt_of_le h.lt hb.size⟩
theorem ShI.keepN {q : IntKind} {w w' : World} {a : Option Addr} {m n : Nat} {xs : List Int} (h : ShI q w a m xs) (hb : Below n w w') (hn : ∀ b, a = some b → b.block < n) : ShI q w' a m xs := by
  rcases h with h | ⟨s, o, h0, h1, h2, h3⟩
  · exact .inl h
  · exact .inr ⟨s, o, h0, h1, Nat.lt_of_lt_of_le h2 hb.size, fun i hi => (hb.cell (p := ⟨s, o + i, none⟩) (show s < n from hn ⟨s, o, none⟩ h0)).trans (h3 i hi)⟩
/-- What a function hands back that returns a deal and an error. -/
theorem res_deal {w : World} {fn : Func} {c t : Tmp} {b : Nat} {v1 v2 : Value} {v : Value} (h : fn.results = #[.cell c 27, .tmp t]) (hp : DealBox w b v1 v2) (tmps : Array Value)
    (hc : tmps[c]?.getD undef = .pointer (some ⟨b, 0, none⟩)) (ht : tmps[t]?.getD undef = v) (h1 : v1.cells = #[v1]) (h2 : v2.cells = #[v2]) : (results fn tmps).run Try.prog w = .ok (.tuple #[.agg #[v1, v2], v]) w := by
  have h0 := hp.c0
  have h1 := hp.c1
  simp [results, h, hc, ht, go_sem, h0, h1]
theorem res_deal1 {w : World} {fn : Func} {c : Tmp} {b : Nat} {v1 v2 : Value} (h : fn.results = #[.cell c 27]) (hp : DealBox w b v1 v2) (tmps : Array Value)
    (hc : tmps[c]?.getD undef = .pointer (some ⟨b, 0, none⟩)) : (results fn tmps).run Try.prog w = .ok (.agg #[v1, v2]) w := by
  have h0 := hp.c0
  have h1 := hp.c1
  simp [results, h, hc, go_sem, h0, h1]

/-- append in a staged region. -/
theorem oper_append {Q : Exit → Act → World → Prop} {K : Act → World → Prop} {a : Act} {W : World} (dst : Option Tmp) (s x : Operand) (ty : TypeId) (n₀ : Nat) (v : Value) (xs : List Int) (y : Int) (hs : a.eval s = v) (hown : OwnU W n₀ v xs) (ad : Addr) (c : Nat) (hx : a.eval x = .slice (some ad) 1 c) (hc : W.cell? ad = some (.int .u64 y))
    (hl : xs.length ≤ 100000) (hb : n₀ ≤ W.heap.size)
    (h : ∀ v' w1, w1.ownsRow n₀ 22 1 v' (xs.length + 1) (xs.map (Value.int IntKind.u64) ++ [.int .u64 y]) → W.grownBy w1 v.ownBlock → (v'.ownBlock = v.ownBlock ∨ v'.ownBlock = some W.heap.size) → K (a.put dst v') w1) :
    Oper.wp Try.prog (bareOp dst (Op.call { callee := .builtin .append, args := #[s, x], argTypes := #[25, 25] }) ty) a W K Q := by
  obtain ⟨i0, hi, hz0, hz1, hz2⟩ := info_parts (P := Try.prog) (e := 22) (z := .int .u64 0) (size := 1) (bytes := 8) (by kernel_rfl)
  obtain ⟨v', w', hr, h2, h3, -, h5⟩ := run_append_own_at (P := Try.prog) W n₀ 25 ty 22 i0 (.int .u64 0) 1 8 Try.underlying25 hi hz0 hz1 hz2 rfl (by decide) v xs.length (xs.map (Value.int IntKind.u64)) hown ad 1 c [.int .u64 y] rfl
    (fun j u hj => by
      cases j with
      | zero => simp at hj; subst hj; rw [show ad.add 0 = ad by unfold Addr.add; split <;> simp_all]; exact hc
      | succ j => simp at hj) (by simp [Value.oneCell']) (by unfold maxLen; omega) (by omega) hb
  unfold bareOp Oper.wp execOp
  simp only [resolve, invoke, builtin, Sem.run_bind, Sem.run_pure, Result.andThen_ok, List.map_toArray, List.map_cons, List.map_nil, hs, hx, hr]
  exact h v' w' h2 h3 h5
end Go.Proofs.Ytjfaaicbojnpaaa
