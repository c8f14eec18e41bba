/- The totals of votes. -/
import Derived.Test.YtembepajnigfiaaTotA
import Derived.Test.YtembepajnigfiaaElgAdd
import Derived.Test.YtembepajnigfiaaStageTwo
import Derived.Laws.MakeOwn
import Derived.Laws.OwnMore
import Derived.OwnWalk
import Derived.OneCell
namespace Go.Proofs.Ytembepajnigfiaa
open Go.RowKit Num
set_option linter.unusedSimpArgs false
set_option linter.unusedVariables false

/-- A row of ciphertexts that the call itself made, in block g. -/
structure OwnP (W : World) (n₀ g N cap : Nat) (ps : List (Int × Int)) : Prop where
  len : ps.length = N
  row : W.ownsRow n₀ 45 2 (.slice (some ⟨g, 0, none⟩) N cap) N (flatS ps)
theorem OwnP.at {W : World} {n₀ g N cap k : Nat} {ps : List (Int × Int)} (h : OwnP W n₀ g N cap ps) (hk : k < N) : W.cell? ⟨g, k * 2, none⟩ = some (.int .u64 (ps.getD k (0, 0)).1) ∧ W.cell? ⟨g, k * 2 + 1, none⟩ = some (.int .u64 (ps.getD k (0, 0)).2) := by
  have hl : k < ps.length := by rw [h.len]; exact hk
  rw [h.row.cellAt (k * 2) (by omega), h.row.cellAt (k * 2 + 1) (by omega)]
  exact flatS_at ps k hl
theorem OwnP.fz {W : World} {n₀ g N cap : Nat} {ps : List (Int × Int)} (h : OwnP W n₀ g N cap ps) (k : Nat) : W.frozen? ⟨g, k, none⟩ = false := h.row.frozenAt k
theorem OwnP.lt {W : World} {n₀ g N cap : Nat} {ps : List (Int × Int)} (h : OwnP W n₀ g N cap ps) : n₀ ≤ g ∧ g < W.heap.size := World.ownsRow.lt h.row g rfl
theorem OwnP.keep {W W' : World} {n₀ g N cap : Nat} {ps : List (Int × Int)} (h : OwnP W n₀ g N cap ps) (hb : Below W.heap.size W W') : OwnP W' n₀ g N cap ps :=
  ⟨h.len, World.ownsRow.kept (row := none) h.row ⟨hb.os, hb.tape, hb.output, hb.size, fun k hk _ => hb.block k hk⟩ (.inr (by simp [Value.ownBlock]))⟩
theorem OwnP.alloc {W : World} {n₀ g N cap : Nat} {ps : List (Int × Int)} (h : OwnP W n₀ g N cap ps) (x : Obj) : OwnP (W.alloc x) n₀ g N cap ps := h.keep ((Below.refl _ _).alloc (Nat.le_refl _) x)
theorem OwnP.drew {W : World} {n₀ g N cap : Nat} {ps : List (Int × Int)} (h : OwnP W n₀ g N cap ps) : OwnP W.drew n₀ g N cap ps := h.keep (Below.refl _ _).drew
theorem flatS_set : ∀ (ps : List (Int × Int)) (k : Nat) (x y : Int), flatS (ps.set k (x, y)) = ((flatS ps).set (k * 2) (.int .u64 x)).set (k * 2 + 1) (.int .u64 y)
  | [], k, x, y => by simp [flatS]
  | p :: ps, 0, x, y => by simp [flatS]
  | p :: ps, k + 1, x, y => by
    rw [List.set_cons_succ, flatS, flatS, flatS_set ps k x y, show (k + 1) * 2 = k * 2 + 1 + 1 by omega]
    simp
theorem OwnP.set {W : World} {n₀ g N cap k : Nat} {ps : List (Int × Int)} (h : OwnP W n₀ g N cap ps) (x y : Int) : OwnP ((W.setCell ⟨g, k * 2, none⟩ (.int .u64 x)).setCell ⟨g, k * 2 + 1, none⟩ (.int .u64 y)) n₀ g N cap (ps.set k (x, y)) :=
  ⟨by rw [List.length_set]; exact h.len, by rw [flatS_set]; exact ((h.row.stored _ _).1.stored _ _).1⟩
theorem OwnP.far {W : World} {n₀ g N cap b o : Nat} {ps : List (Int × Int)} (h : OwnP W n₀ g N cap ps) (hb : b ≠ g) (u : Value) : OwnP (W.setCell ⟨b, o, none⟩ u) n₀ g N cap ps :=
  ⟨h.len, ownsRow_setCell_other h.row (by simp [Value.ownBlock]; exact Ne.symm hb) u⟩
theorem OwnP.shS {W : World} {n₀ g N cap : Nat} {ps : List (Int × Int)} (h : OwnP W n₀ g N cap ps) : ShS W (some ⟨g, 0, none⟩) N ps :=
  .inr ⟨g, 0, rfl, h.len.symm, h.lt.2, fun i hi => by rw [Nat.zero_add]; exact h.at (by rw [← h.len]; exact hi)⟩
theorem made_pairs : ∀ n : Nat, (madeCells (Value.agg #[.int .u64 0, .int .u64 0]).cells (n * 2)).toList = flatS (List.replicate n ((0 : Int), (0 : Int)))
  | 0 => by simp [madeCells, flatS, Array.range_zero']
  | n + 1 => by
    have e : (n + 1) * 2 = n * 2 + 1 + 1 := by omega
    have := made_pairs n
    simp only [madeCells, Value.cells, Array.toList_map, Array.toList_range] at this ⊢
    rw [e, List.range_succ, List.range_succ, List.map_append, List.map_append, this, List.replicate_succ', flatS_append]
    simp [flatS, Nat.mul_mod_left, Nat.add_mod]
theorem OwnP.made {W : World} {n₀ g n : Nat} (h : W.ownsRow n₀ 45 2 (.slice (some ⟨g, 0, none⟩) n n) n (madeCells (Value.agg #[.int .u64 0, .int .u64 0]).cells (n * 2)).toList) : OwnP W n₀ g n n (List.replicate n (0, 0)) :=
  ⟨by simp, by rw [← made_pairs]; exact h⟩

/-- The i-th ciphertexts of votes. -/
def colS (l : List Vt) (i : Nat) : List (Int × Int) := l.map fun V => V.bs.getD i (0, 0)
def totS (P : Int) (n : Nat) (l : List Vt) : List (Int × Int) := (List.range n).map fun i => allP P (colS l i)
def oddS (P n : Int) (V : Vt) : Bool := !(decide ((V.n : Int) = n) && okS P V.bs)
/-- What Total returns. -/
def totF (P Q G n : Int) (l : List Vt) : Int × List (Int × Int) :=
  if Has P Q G then
    if n < 1 ∨ 10 < n then (2, []) else if 256 < l.length then (4, []) else if l.any (oddS P n) then (8, []) else (0, totS P n.toNat l)
  else (300, [])
def RetTot (w : World) (er : Int) (ps : List (Int × Int)) (e : Ending) (w' : World) : Prop :=
  ∃ a c, e = .returned (.tuple #[.slice a ps.length c, .int .i64 er]) ∧ ShS w' a ps.length ps ∧ (a = none → c = 0) ∧ Below w.heap.size w w'
theorem Below.rowT {n : Nat} {W W' : World} {r : Option Nat} (hg : W.grownBy W' r) (hr : ∀ k, r = some k → n ≤ k) (hn : n ≤ W.heap.size) : Below n W W' :=
  ⟨hg.os, hg.tape, hg.output, hg.size, fun k hk => hg.block k (Nat.lt_of_lt_of_le hk hn) (fun e => by have := hr k e.symm; omega)⟩
theorem getD_atT {α : Type} {l : List α} {k : Nat} {d : α} (h : k < l.length) : l.getD k d = l[k] := by rw [List.getD_eq_getElem?_getD, List.getElem?_eq_getElem h]; rfl
theorem getD_setT {α : Type} {l : List α} {k j : Nat} {d x : α} (h : k < l.length) : (l.set k x).getD j d = if k = j then x else l.getD j d := by
  rw [List.getD_eq_getElem?_getD, List.getD_eq_getElem?_getD, List.getElem?_set]
  split
  · next e => subst e; simp [h]
  · rfl
structure CPair (w : World) (s o k : Nat) (u v : Int) : Prop where
  lt : s < w.heap.size
  c : SCells w s o k u v
theorem CPair.keep {w w' : World} {s o k : Nat} {u v : Int} (h : CPair w s o k u v) (hb : Below w.heap.size w w') : CPair w' s o k u v := ⟨Nat.lt_of_lt_of_le h.lt hb.size, h.c.keep h.lt hb⟩
theorem CPair.alloc {w : World} {s o k : Nat} {u v : Int} (h : CPair w s o k u v) (x : Obj) : CPair (w.alloc x) s o k u v := h.keep ((Below.refl _ _).alloc (Nat.le_refl _) x)
theorem CPair.drew {w : World} {s o k : Nat} {u v : Int} (h : CPair w s o k u v) : CPair w.drew s o k u v := h.keep (Below.refl _ _).drew
theorem own_at {W : World} {n₀ g N cap k : Nat} {ps : List (Int × Int)} {p q : Int} (hpq : ps.getD k (0, 0) = (p, q)) (h : OwnP W n₀ g N cap ps) (hk : k < N) : W.cell? ⟨g, k * 2, none⟩ = some (.int .u64 p) ∧ W.cell? ⟨g, k * 2 + 1, none⟩ = some (.int .u64 q) := by
  have := h.at hk
  rwa [hpq] at this
theorem cell_oneT (W : World) (x : Value) (t : TypeId) : (W.alloc (.cells #[x] t)).cell? ⟨W.heap.size, 0, none⟩ = some x := by rw [World.cell?_alloc_new]; rfl
theorem plusP_rng {P : Int} (hP : 1 < P) (a b : Int × Int) : 0 ≤ (plusP P a b).1 ∧ (plusP P a b).1 < P ∧ 0 ≤ (plusP P a b).2 ∧ (plusP P a b).2 < P :=
  ⟨Int.emod_nonneg _ (by omega), Int.emod_lt_of_pos _ (by omega), Int.emod_nonneg _ (by omega), Int.emod_lt_of_pos _ (by omega)⟩
theorem allP_rng {P : Int} (hP : 1 < P) (ps : List (Int × Int)) : 0 ≤ (allP P ps).1 ∧ (allP P ps).1 < P ∧ 0 ≤ (allP P ps).2 ∧ (allP P ps).2 < P := by
  have key : ∀ (ps : List (Int × Int)) (q : Int × Int), (0 ≤ q.1 ∧ q.1 < P ∧ 0 ≤ q.2 ∧ q.2 < P) → 0 ≤ (ps.foldl (plusP P) q).1 ∧ (ps.foldl (plusP P) q).1 < P ∧ 0 ≤ (ps.foldl (plusP P) q).2 ∧ (ps.foldl (plusP P) q).2 < P := by
    intro ps
    induction ps with
    | nil => intro q h; exact h
    | cons p ps ih => intro q _; exact ih _ (plusP_rng hP q p)
  exact key ps (1, 1) ⟨by show (0 : Int) ≤ 1; omega, hP, by show (0 : Int) ≤ 1; omega, hP⟩
theorem colS_snoc {l : List Vt} {k i : Nat} {V : Vt} (h : l[k]? = some V) : colS (l.take (k + 1)) i = colS (l.take k) i ++ [V.bs.getD i (0, 0)] := by
  rw [colS, List.take_add_one, h]; simp [colS]
theorem tot_step {P : Int} {l : List Vt} {k i : Nat} {V : Vt} {x y u v : Int} (h : l[k]? = some V) (hx : allP P (colS (l.take k) i) = (x, y)) (hu : V.bs.getD i (0, 0) = (u, v)) : allP P (colS (l.take (k + 1)) i) = (x * u % P, y * v % P) := by
  rw [colS_snoc h, hu, allP, List.foldl_append]
  show plusP P (allP P (colS (l.take k) i)) (u, v) = _
  rw [hx]; rfl

set_option maxRecDepth 100000 in
set_option maxHeartbeats 8000000 in
theorem tot1_any {P Q G n : Int} {bg bn : Nat} {V : Vt} {r : Bool} (w : World) (hg : Boxed w bg P Q G) (hn : w.cell? ⟨bn, 0, none⟩ = some (.int .i64 n)) (hbl : bn < w.heap.size) (hV : VtIn w V) (h20 : V.n ≤ 1000000) (hr : oddS P n V = r) :
    Calls Try.prog 9 #[V.v, .pointer (some ⟨bn, 0, none⟩), .pointer (some ⟨bg, 0, none⟩)] w fun e w' => e = .returned (.bool r) ∧ Below w.heap.size w w' := by
  have F_v := Lib.hid (VBox.at w V 33 w.heap.size rfl)
  have F_g := Lib.hid (hg.alloc (.cells #[.slice V.a V.n V.c, .slice V.b V.m V.d, .bool V.one, .int .u64 V.z.r0, .int .u64 V.z.r1, .int .u64 V.z.s0, .int .u64 V.z.s1, .int .u64 V.z.c0, .int .u64 V.z.c1, .int .u64 V.z.z0, .int .u64 V.z.z1] 33))
  have HN := Lib.hid (show (w.alloc (.cells #[.slice V.a V.n V.c, .slice V.b V.m V.d, .bool V.one, .int .u64 V.z.r0, .int .u64 V.z.r1, .int .u64 V.z.s0, .int .u64 V.z.s1, .int .u64 V.z.c0, .int .u64 V.z.c1, .int .u64 V.z.z0, .int .u64 V.z.z1] 33)).cell? ⟨bn, 0, none⟩ = some (.int .i64 n) from (((Below.refl w.heap.size w).alloc (Nat.le_refl _) (.cells #[.slice V.a V.n V.c, .slice V.b V.m V.d, .bool V.one, .int .u64 V.z.r0, .int .u64 V.z.r1, .int .u64 V.z.s0, .int .u64 V.z.s1, .int .u64 V.z.c0, .int .u64 V.z.c1, .int .u64 V.z.z0, .int .u64 V.z.z1] 33)).cell (p := ⟨bn, 0, none⟩) hbl).trans hn)
  have HBW := Lib.hid (show Below w.heap.size w (w.alloc (.cells #[.slice V.a V.n V.c, .slice V.b V.m V.d, .bool V.one, .int .u64 V.z.r0, .int .u64 V.z.r1, .int .u64 V.z.s0, .int .u64 V.z.s1, .int .u64 V.z.c0, .int .u64 V.z.c1, .int .u64 V.z.z0, .int .u64 V.z.z1] 33)) from (Below.refl _ _).alloc (Nat.le_refl _) _)
  have HS := Lib.hid (hV.h1.keep HBW.out)
  have HR := Lib.hid hr
  clear hg hn hV hr
  obtain ⟨-, v0, v1, -⟩ := id F_v.out
  obtain ⟨x0a, x0b, x0c, -⟩ := id F_g.out
  have n0 := HN.out
  unfold Vt.v
  by_cases h : (V.n : Int) = n
  case pos =>
    have d1 : decide ((V.n : Int) = n) = true := by simpa using h
    have d2 : ((V.n : Int) == n) = true := by simpa using h
    have d3 : ((V.n : Int) != n) = false := by simp [h]
    go_enter Try.func9, Try.ntmps9
    go_wp2_with fail
    refine (tranged_any _ HS.out h20).mono ?_
    rintro e w1 ⟨rfl, hb1⟩
    have HB := Lib.hid (HBW.out.trans (hb1.mono HBW.out.size))
    clear hb1
    go_wp2_with fail
    go_ret
    exact ⟨by rw [← HR.out]; simp [oddS, h], HB.out⟩
  case neg =>
    have d1 : decide ((V.n : Int) = n) = false := by simpa using h
    have d2 : ((V.n : Int) == n) = false := by simpa using h
    have d3 : ((V.n : Int) != n) = true := by simp [h]
    go_enter Try.func9, Try.ntmps9
    go_wp2_with fail
    go_ret
    exact ⟨by rw [← HR.out]; simp [oddS, h], HBW.out⟩

set_option maxRecDepth 100000 in
set_option maxHeartbeats 8000000 in
theorem totIndex_any {P Q G n : Int} {bg bn : Nat} {a : Option Addr} {m c : Nat} {l : List Vt} (w : World) (hg : Boxed w bg P Q G) (hn : w.cell? ⟨bn, 0, none⟩ = some (.int .i64 n)) (hbl : bn < w.heap.size) (hl : ShV w a m l) (hm : m ≤ 1000000) (h20 : ∀ V, V ∈ l → V.n ≤ 1000000) :
    Calls Try.prog 18 #[.slice a m c, .func (.func 9) #[] #[.pointer (some ⟨bn, 0, none⟩), .pointer (some ⟨bg, 0, none⟩)]] w fun e w' => ∃ r : Int, e = .returned (.int .i64 r) ∧ decide (0 ≤ r) = l.any (oddS P n) ∧ Below w.heap.size w w' := by
  have HG := Lib.hid hg
  have HN := Lib.hid hn
  have HS := Lib.hid hl
  have HL := Lib.hid hl.len
  have H20 := Lib.hid h20
  clear hg hn hl h20
  have c26 : Try.prog.cellsOf 33 = 11 := by kernel_rfl
  have HBW := Lib.hid (Below.refl w.heap.size w)
  go_enter Try.func18, Try.ntmps18
  go_wp2_with fail
  go_loopw [5, 8] (fun c5 c8 wr => ∃ i : Nat, i ≤ m ∧ c8 = .int .i64 i ∧ Hid ((l.take i).any (oddS P n) = false) ∧ Hid (Below w.heap.size w wr)) (fun _ c8 _ => m - (intOf c8).toNat)
  case atStart => exact ⟨0, Nat.zero_le _, rfl, (show (l.take 0).any (oddS P n) = false by simp), HBW.out⟩
  case round =>
    clear HBW
    obtain ⟨i, hi, rfl, HA, HBW⟩ := hrel
    by_cases hlt : i < m
    case neg =>
      have HZ := Lib.hid (show l.any (oddS P n) = false by
        have := HA.out
        rwa [List.take_of_length_le (by have := HL.out; omega)] at this)
      go_wp2_with fail
      go_ret
      exact ⟨_, rfl, by rw [HZ.out]; rfl, HBW.out⟩
    case pos =>
      have hi0 : (0 : Int) ≤ (i : Int) := by omega
      have hi1 : (i : Int) < (m : Int) := by omega
      have hwi : IntKind.i64.wrap ((i : Int) + 1) = (i : Int) + 1 := IntWalk.i64_in _ (by omega)
      obtain ⟨s, o, V, hsa, hV, hc, hin⟩ := (HS.out.keep HBW.out).at i hlt
      have HV := Lib.hid hV
      have HIN := Lib.hid hin
      have H20V := H20.out V (List.mem_of_getElem? hV)
      obtain ⟨-, hc0, hc1, hc2, hc3, hc4, hc5, hc6, hc7, hc8, hc9, hc10⟩ := hc
      subst hsa
      obtain ⟨v, hv⟩ : ∃ v, oddS P n V = v := ⟨_, rfl⟩
      have HR := Lib.hid hv
      have HSN := Lib.hid (show (l.take (i + 1)).any (oddS P n) = v by
        rw [List.take_add_one, hV, List.any_append, HA.out, ← hv]; simp)
      clear hV hin hv
      go_wp2_with fail
      clear hc0 hc1 hc2 hc3 hc4 hc5 hc6 hc7 hc8 hc9 hc10
      refine (tot1_any _ (HG.out.keep HBW.out) ((HBW.out.cell (p := ⟨bn, 0, none⟩) hbl).trans HN.out) (Nat.lt_of_lt_of_le hbl HBW.out.size) HIN.out H20V HR.out).mono ?_
      rintro e w1 ⟨rfl, hb1⟩
      replace HBW := Lib.hid (HBW.out.trans (hb1.mono HBW.out.size))
      clear hb1
      cases v with
      | true =>
        have HZ := Lib.hid (show l.any (oddS P n) = true by
          rw [List.any_eq_true]
          exact ⟨V, List.mem_of_getElem? HV.out, HR.out⟩)
        go_wp2_with fail
        go_ret
        exact ⟨_, rfl, by rw [HZ.out]; simp, HBW.out⟩
      | false =>
        go_wp2_with fail
        go_roundw
        case rel => exact ⟨i + 1, by omega, by go_num, HSN.out, HBW.out⟩
        case measure => simp [intOf] <;> omega

set_option maxHeartbeats 2000000 in
theorem totContains_any {P Q G n : Int} {bg bn : Nat} {a : Option Addr} {m c : Nat} {l : List Vt} (w : World) (hg : Boxed w bg P Q G) (hn : w.cell? ⟨bn, 0, none⟩ = some (.int .i64 n)) (hbl : bn < w.heap.size) (hl : ShV w a m l) (hm : m ≤ 1000000) (h20 : ∀ V, V ∈ l → V.n ≤ 1000000) :
    Calls Try.prog 11 #[.slice a m c, .func (.func 9) #[] #[.pointer (some ⟨bn, 0, none⟩), .pointer (some ⟨bg, 0, none⟩)]] w fun e w' => e = .returned (.bool (l.any (oddS P n))) ∧ Below w.heap.size w w' := by
  have HG := Lib.hid hg
  have HS := Lib.hid hl
  have H20 := Lib.hid h20
  have HN := Lib.hid hn
  clear hg hl h20 hn
  go_enter Try.func11, Try.ntmps11
  go_wp2_with fail
  refine (totIndex_any _ HG.out HN.out hbl HS.out hm H20.out).mono ?_
  rintro e w1 ⟨r, rfl, hr, hb1⟩
  have HB := Lib.hid hb1
  have HZ := Lib.hid hr
  clear hb1 hr
  go_wp2_with fail
  go_ret
  exact ⟨by rw [← HZ.out]; rfl, HB.out⟩
end Go.Proofs.Ytembepajnigfiaa
