/- A vote in a box; what Read answers. -/
import Derived.Test.YtlbldpkgnonbpaaDoorByG
namespace Go.Proofs.YtlbldpkgnonbpaaDoor
open Go Go.RowKit Num Sha
set_option linter.unusedSimpArgs false
set_option linter.unusedVariables false

/-- The cells of a box. -/
structure Cl (w : World) (B : Nat) (l : List Value) : Prop where
  c : ∀ i u, l[i]? = some u → w.cell? ⟨B, i, none⟩ = some u
  f : ∀ i, w.frozen? ⟨B, i, none⟩ = false
  lt : B < w.heap.size
theorem Cl.at (w : World) (l : List Value) (t : TypeId) (b : Nat) (hb : b = w.heap.size) : Cl (w.alloc (.cells l.toArray t)) b l := by
  subst hb
  refine ⟨fun i u hu => ?_, fun i => by simp, by simp⟩
  rw [World.cell?_alloc_new]; simpa using hu
theorem Cl.keepN {w w' : World} {B n : Nat} {l : List Value} (h : Cl w B l) (hb : Below n w w') (hn : B < n) : Cl w' B l :=
  ⟨fun i u hu => (hb.cell (p := ⟨B, i, none⟩) hn).trans (h.c i u hu), fun i => (hb.frozen (p := ⟨B, i, none⟩) hn).trans (h.f i), Nat.lt_of_lt_of_le h.lt hb.size⟩
theorem Cl.keep {w w' : World} {B : Nat} {l : List Value} (h : Cl w B l) (hb : Below w.heap.size w w') : Cl w' B l := h.keepN hb h.lt
theorem Cl.drew {w : World} {B : Nat} {l : List Value} (h : Cl w B l) : Cl w.drew B l := h.keep (Below.refl _ _).drew
theorem Cl.alloc {w : World} {B : Nat} {l : List Value} (h : Cl w B l) (o : Obj) : Cl (w.alloc o) B l := h.keep ((Below.refl _ _).alloc (Nat.le_refl _) o)
theorem Cl.gro {w w' : World} {B r : Nat} {l : List Value} (h : Cl w B l) (g : Gro r w w') (hn : B ≠ r) : Cl w' B l :=
  ⟨fun i u hu => (World.cell?_of_block (w := w) (a := ⟨B, i, none⟩) (g.block B h.lt (by simpa using hn))).trans (h.c i u hu),
   fun i => (World.frozen?_of_block (w := w) (a := ⟨B, i, none⟩) (g.block B h.lt (by simpa using hn))).trans (h.f i), Nat.lt_of_lt_of_le h.lt g.size⟩
theorem Cl.far {w : World} {B : Nat} {l : List Value} (h : Cl w B l) (p : Addr) (u : Value) (hp : p.block ≠ B) : Cl (w.setCell p u) B l :=
  ⟨fun i v hv => by rw [World.cell?_setCell_other _ _ _ _ (show p ≠ ⟨B, i, none⟩ from fun e => hp (by rw [e]))]; exact h.c i v hv, fun i => by rw [World.frozen?_setCell]; exact h.f i, by simpa using h.lt⟩
theorem Cl.set {w : World} {B : Nat} {l m : List Value} (h : Cl w B l) (i : Nat) (u : Value) (hi : i < l.length) (hm : l.set i u = m) : Cl (w.setCell ⟨B, i, none⟩ u) B m := by
  subst hm
  refine ⟨fun j v hv => ?_, fun j => by rw [World.frozen?_setCell]; exact h.f j, by simpa using h.lt⟩
  by_cases e : j = i
  · subst e
    rw [List.getElem?_set_self hi] at hv
    cases hv
    refine World.cell?_setCell_same' _ _ _ ?_
    rw [h.c j l[j] (List.getElem?_eq_getElem hi)]; try rfl
  · rw [List.getElem?_set_ne (Ne.symm e)] at hv
    rw [World.cell?_setCell_other _ _ _ _ (show (⟨B, i, none⟩ : Addr) ≠ ⟨B, j, none⟩ from fun h0 => e (by injection h0 with _ h1; exact h1.symm))]
    exact h.c j v hv
theorem Cl.k11 {w : World} {B : Nat} {v0 v1 v2 v3 v4 v5 v6 v7 v8 v9 v10 : Value} (h : Cl w B [v0, v1, v2, v3, v4, v5, v6, v7, v8, v9, v10]) : (w.cell? ⟨B, 0, none⟩ = some v0 ∧ w.cell? ⟨B, 1, none⟩ = some v1 ∧ w.cell? ⟨B, 2, none⟩ = some v2 ∧ w.cell? ⟨B, 3, none⟩ = some v3 ∧ w.cell? ⟨B, 4, none⟩ = some v4 ∧ w.cell? ⟨B, 5, none⟩ = some v5 ∧ w.cell? ⟨B, 6, none⟩ = some v6 ∧ w.cell? ⟨B, 7, none⟩ = some v7 ∧ w.cell? ⟨B, 8, none⟩ = some v8 ∧ w.cell? ⟨B, 9, none⟩ = some v9 ∧ w.cell? ⟨B, 10, none⟩ = some v10) ∧ (w.frozen? ⟨B, 0, none⟩ = false ∧ w.frozen? ⟨B, 1, none⟩ = false ∧ w.frozen? ⟨B, 2, none⟩ = false ∧ w.frozen? ⟨B, 3, none⟩ = false ∧ w.frozen? ⟨B, 4, none⟩ = false ∧ w.frozen? ⟨B, 5, none⟩ = false ∧ w.frozen? ⟨B, 6, none⟩ = false ∧ w.frozen? ⟨B, 7, none⟩ = false ∧ w.frozen? ⟨B, 8, none⟩ = false ∧ w.frozen? ⟨B, 9, none⟩ = false ∧ w.frozen? ⟨B, 10, none⟩ = false) :=
  ⟨⟨h.c 0 _ rfl, h.c 1 _ rfl, h.c 2 _ rfl, h.c 3 _ rfl, h.c 4 _ rfl, h.c 5 _ rfl, h.c 6 _ rfl, h.c 7 _ rfl, h.c 8 _ rfl, h.c 9 _ rfl, h.c 10 _ rfl⟩, h.f 0, h.f 1, h.f 2, h.f 3, h.f 4, h.f 5, h.f 6, h.f 7, h.f 8, h.f 9, h.f 10⟩
theorem Cl.st11 {w : World} {B : Nat} {v0 v1 v2 v3 v4 v5 v6 v7 v8 v9 v10 : Value} (h : Cl w B [v0, v1, v2, v3, v4, v5, v6, v7, v8, v9, v10]) (u0 u1 u2 u3 u4 u5 u6 u7 u8 u9 u10 : Value) : Cl (((((((((((w.setCell ⟨B, 0, none⟩ u0).setCell ⟨B, 1, none⟩ u1).setCell ⟨B, 2, none⟩ u2).setCell ⟨B, 3, none⟩ u3).setCell ⟨B, 4, none⟩ u4).setCell ⟨B, 5, none⟩ u5).setCell ⟨B, 6, none⟩ u6).setCell ⟨B, 7, none⟩ u7).setCell ⟨B, 8, none⟩ u8).setCell ⟨B, 9, none⟩ u9).setCell ⟨B, 10, none⟩ u10) B [u0, u1, u2, u3, u4, u5, u6, u7, u8, u9, u10] :=
  (((((((((((h.set (m := [u0, v1, v2, v3, v4, v5, v6, v7, v8, v9, v10]) 0 _ (by simp) rfl).set (m := [u0, u1, v2, v3, v4, v5, v6, v7, v8, v9, v10]) 1 _ (by simp) rfl).set (m := [u0, u1, u2, v3, v4, v5, v6, v7, v8, v9, v10]) 2 _ (by simp) rfl).set (m := [u0, u1, u2, u3, v4, v5, v6, v7, v8, v9, v10]) 3 _ (by simp) rfl).set (m := [u0, u1, u2, u3, u4, v5, v6, v7, v8, v9, v10]) 4 _ (by simp) rfl).set (m := [u0, u1, u2, u3, u4, u5, v6, v7, v8, v9, v10]) 5 _ (by simp) rfl).set (m := [u0, u1, u2, u3, u4, u5, u6, v7, v8, v9, v10]) 6 _ (by simp) rfl).set (m := [u0, u1, u2, u3, u4, u5, u6, u7, v8, v9, v10]) 7 _ (by simp) rfl).set (m := [u0, u1, u2, u3, u4, u5, u6, u7, u8, v9, v10]) 8 _ (by simp) rfl).set (m := [u0, u1, u2, u3, u4, u5, u6, u7, u8, u9, v10]) 9 _ (by simp) rfl).set (m := [u0, u1, u2, u3, u4, u5, u6, u7, u8, u9, u10]) 10 _ (by simp) rfl)
theorem own_gro {W W' : World} {r n₀ : Nat} {e : TypeId} {sz n : Nat} {v : Value} {xs : List Value} (h : W.ownsRow n₀ e sz v n xs) (g : Gro r W W') (hn : r < n₀) : W'.ownsRow n₀ e sz v n xs := by
  refine World.ownsRow.kept h g ?_
  cases hv : v.ownBlock with
  | none => exact .inl rfl
  | some k => exact .inr (by have := (h.lt k hv).1; intro e; injection e with e; omega)
theorem own_far {W : World} {n₀ : Nat} {e : TypeId} {sz n : Nat} {v : Value} {xs : List Value} (h : W.ownsRow n₀ e sz v n xs) (p : Addr) (u : Value) (hn : p.block < n₀) : (W.setCell p u).ownsRow n₀ e sz v n xs :=
  own_gro h ((Gro.refl p.block W).set p (.inl rfl) u) hn
/-- The numbers, one by one. -/
def boxesN (ys : List Int) (k : Nat) : List (Int × Int) := (List.range k).map fun i => (num8 ys (2 * i), num8 ys (2 * i + 1))
def bitsN (ys : List Int) (n k : Nat) : List Bt := (List.range k).map fun i => bitN (ys.drop (16 * n + 64 * i))
theorem boxesN_succ (ys : List Int) (k : Nat) : boxesN ys (k + 1) = boxesN ys k ++ [(num8 ys (2 * k), num8 ys (2 * k + 1))] := by simp [boxesN, List.range_succ]
theorem boxesN_len (ys : List Int) (k : Nat) : (boxesN ys k).length = k := by simp [boxesN]
theorem bitsN_succ (ys : List Int) (n k : Nat) : bitsN ys n (k + 1) = bitsN ys n k ++ [bitN (ys.drop (16 * n + 64 * k))] := by simp [bitsN, List.range_succ]
theorem bitsN_len (ys : List Int) (n k : Nat) : (bitsN ys n k).length = k := by simp [bitsN]
theorem bitN_u {xs : List Int} (h : Bytes xs) : (bitN xs).u := ⟨num8_u h 0, num8_u h 2, num8_u h 1, num8_u h 3, num8_u h 4, num8_u h 5, num8_u h 6, num8_u h 7⟩
theorem boxesN_u {ys : List Int} (h : Bytes ys) (k : Nat) : ∀ q, q ∈ boxesN ys k → U64 q.1 ∧ U64 q.2 := by
  intro q hq
  obtain ⟨i, -, rfl⟩ := List.mem_map.1 hq
  exact ⟨num8_u h _, num8_u h _⟩
theorem bitsN_u {ys : List Int} (h : Bytes ys) (n k : Nat) : ∀ q, q ∈ bitsN ys n k → q.u := by
  intro q hq
  obtain ⟨i, -, rfl⟩ := List.mem_map.1 hq
  exact bitN_u (h.drop _)
/-- What Read answers: the error, the boxes, the proofs, the flag, the last proof. -/
def readF (xs : List Int) : Int × List (Int × Int) × List Bt × Bool × Bt :=
  let n := (xs.getD 0 0).toNat
  let m := (xs.getD 1 0).toNat
  if xs.length < 3 then (10, [], [], false, Bt.zero)
  else if 10 < n ∨ 10 < m ∨ 1 < xs.getD 2 0 then (11, [], [], false, Bt.zero)
  else if xs.length < 3 + 16 * n + 64 * (m + 1) then (10, [], [], false, Bt.zero)
  else if 3 + 16 * n + 64 * (m + 1) < xs.length then (11, [], [], false, Bt.zero)
  else (0, boxesN (xs.drop 3) n, bitsN (xs.drop 3) n m, decide (xs.getD 2 0 = 1), bitN ((xs.drop 3).drop (16 * n + 64 * m)))
/-- What Read returns. -/
def RetRd (w : World) (xs : List Int) (e : Ending) (w' : World) : Prop :=
  ∃ V : Vt, e = .returned (.tuple #[V.v, .int .i64 (readF xs).1]) ∧ VtIn w' V ∧ V.bs = (readF xs).2.1 ∧ V.ps = (readF xs).2.2.1 ∧ V.one = (readF xs).2.2.2.1 ∧ V.z = (readF xs).2.2.2.2 ∧ Below w.heap.size w w'
def zeroV : Vt := ⟨none, 0, 0, [], none, 0, 0, [], false, Bt.zero⟩
theorem zeroV_in (w : World) : VtIn w zeroV := ⟨.inl ⟨rfl, rfl⟩, by simp [zeroV], fun _ => rfl, .inl ⟨rfl, rfl⟩, by simp [zeroV], fun _ => rfl, by simp [zeroV, Bt.zero, Bt.u, U64]⟩
theorem RetRd.err {w w' : World} {xs : List Int} {er : Int} (h : readF xs = (er, [], [], false, Bt.zero)) (hb : Below w.heap.size w w') : RetRd w xs (.returned (.tuple #[.agg #[.slice none 0 0, .slice none 0 0, .bool false, .int .u64 0, .int .u64 0, .int .u64 0, .int .u64 0, .int .u64 0, .int .u64 0, .int .u64 0, .int .u64 0], .int .i64 er])) w' :=
  ⟨zeroV, by rw [h]; rfl, zeroV_in _, by rw [h]; rfl, by rw [h]; rfl, by rw [h]; rfl, by rw [h]; rfl, hb⟩
theorem res_vote {w : World} {fn : Func} {c t : Tmp} {b : Nat} {a0 a1 : Option Addr} {n0 n1 c0 c1 : Nat} {o2 : Bool} {i3 i4 i5 i6 i7 i8 i9 i10 : Int} {v : Value} (h : fn.results = #[.cell c 29, .tmp t]) (hp : Cl w b [.slice a0 n0 c0, .slice a1 n1 c1, .bool o2, .int .u64 i3, .int .u64 i4, .int .u64 i5, .int .u64 i6, .int .u64 i7, .int .u64 i8, .int .u64 i9, .int .u64 i10]) (tmps : Array Value)
    (hc : tmps[c]?.getD undef = .pointer (some ⟨b, 0, none⟩)) (ht : tmps[t]?.getD undef = v) : (results fn tmps).run Tryd.prog w = .ok (.tuple #[.agg #[.slice a0 n0 c0, .slice a1 n1 c1, .bool o2, .int .u64 i3, .int .u64 i4, .int .u64 i5, .int .u64 i6, .int .u64 i7, .int .u64 i8, .int .u64 i9, .int .u64 i10], v]) w := by
  obtain ⟨⟨q0, q1, q2, q3, q4, q5, q6, q7, q8, q9, q10⟩, -⟩ := hp.k11
  simp [results, h, hc, ht, go_sem, q0, q1, q2, q3, q4, q5, q6, q7, q8, q9, q10]
theorem wp_push_s {w : World} {o : Oper} {a : Act} {K : Act → World → Prop} {Q : Exit → Act → World → Prop} (s x : Operand) (ho : o.op = .call { callee := .builtin .append, args := #[s, x], argTypes := #[22, 22] })
    (base n b : Nat) (v : Value) (xs : List Value) (y z : Int) (hs : a.eval s = v) (hx : a.eval x = .slice (some ⟨b, 0, none⟩) 1 1) (hown : w.ownsRow base 78 2 v n xs) (hc : ∀ j u, ([.int .u64 y, .int .u64 z] : List Value)[j]? = some u → w.cell? ((⟨b, 0, none⟩ : Addr).add j) = some u) (hn : n ≤ 1000000) (hb : base ≤ w.heap.size)
    (h : ∀ v' w', w'.ownsRow base 78 2 v' (n + 1) (xs ++ [.int .u64 y, .int .u64 z]) → w.grownBy w' v.ownBlock → K (a.put o.dst v') w') : o.wp Tryd.prog a w K Q := by
  obtain ⟨j0, ji, jz0, jz1, jz2⟩ := info_parts (P := Tryd.prog) (e := 78) (z := .agg #[.int .u64 0, .int .u64 0]) (size := 2) (bytes := 16) (by kernel_rfl)
  exact wp_append_own w s x 22 ho base 78 j0 _ 2 16 Tryd.underlying22 ji jz0 jz1 jz2 rfl (by decide) v n xs hs hown ⟨b, 0, none⟩ 1 1 [.int .u64 y, .int .u64 z] hx rfl hc (fun u hu => by simp at hu; rcases hu with rfl | rfl <;> rfl) (by unfold maxLen; omega) (by omega) hb (fun v' w' h1 h2 _ => h v' w' h1 h2)
end Go.Proofs.YtlbldpkgnonbpaaDoor
