/- shamir.Weights. -/
import Derived.Test.YtjfaaicbojnpaaaMark
import Derived.Test.YtjfaaicbojnpaaaShD
import Derived.Test.YtjfaaicbojnpaaaWgt
import Derived.Test.YtjfaaicbojnpaaaStageIn
import Derived.Maps.AppendAt
namespace Go.Proofs.Ytjfaaicbojnpaaa
open Go.RowKit Go.Shelf Num
set_option linter.unusedSimpArgs false
set_option linter.unusedVariables false

attribute [local go_sem] Oper.semAt_some

/-- The weights: the error, the numbers. -/
def weightsS (P Q G : Int) (ids : List Int) : Int × List Int :=
  if Has P Q G then (if listS Q 1 ids then (match wAll Q ids ids with | some ws => (0, ws) | none => (6, [])) else (2, [])) else (300, [])
/-- A slice of the call's own and an error. -/
def RetRow (w : World) (er : Int) (ws : List Int) (e : Ending) (w' : World) : Prop :=
  ∃ v, e = .returned (.tuple #[v, .int .i64 er]) ∧ OwnU w' w.heap.size v ws ∧ Below w.heap.size w w'
/-- One value in one cell of a block. -/
structure OneAt (W : World) (b : Nat) (v : Value) : Prop where
  c0 : W.cell? ⟨b, 0, none⟩ = some v
  f0 : W.frozen? ⟨b, 0, none⟩ = false
  lt : b < W.heap.size
theorem OneAt.at (W : World) (v : Value) (T : TypeId) (b : Nat) (hb : b = W.heap.size) : OneAt (W.alloc (.cells #[v] T)) b v := by
  subst hb
  refine ⟨?_, ?_, by simp⟩
  · rw [World.cell?_alloc_new]; rfl
  · simp
theorem OneAt.keep {W W' : World} {b : Nat} {v : Value} (h : OneAt W b v) (hb : Below W.heap.size W W') : OneAt W' b v :=
  ⟨(hb.cell (p := ⟨b, 0, none⟩) h.lt).trans h.c0, (hb.frozen (p := ⟨b, 0, none⟩) h.lt).trans h.f0, Nat.lt_of_lt_of_le h.lt hb.size⟩
theorem OneAt.alloc {W : World} {b : Nat} {v : Value} (h : OneAt W b v) (o : Obj) : OneAt (W.alloc o) b v := h.keep ((Below.refl _ _).alloc (Nat.le_refl _) o)
theorem OneAt.drew {W : World} {b : Nat} {v : Value} (h : OneAt W b v) : OneAt W.drew b v := h.keep (Below.refl _ _).drew
theorem OneAt.kept {W W' : World} {b : Nat} {v : Value} {bs : List Nat} (h : OneAt W b v) (hk : KeptBut bs W W') (hb : b ∉ bs) : OneAt W' b v :=
  ⟨(hk.cell h.lt hb).trans h.c0, (hk.frozen h.lt hb).trans h.f0, Nat.lt_of_lt_of_le h.lt hk.size⟩
theorem OneAt.stored {W : World} {b : Nat} {v : Value} (h : OneAt W b v) (u : Value) : OneAt (W.setCell ⟨b, 0, none⟩ u) b u :=
  ⟨World.cell?_setCell_same' _ _ _ (by rw [h.c0]; rfl), by rw [World.frozen?_setCell]; exact h.f0, by simpa using h.lt⟩
theorem OneAt.far {W : World} {b c o : Nat} {v : Value} (h : OneAt W b v) (hn : c ≠ b) (u : Value) : OneAt (W.setCell ⟨c, o, none⟩ u) b v :=
  ⟨(World.cell?_setCell_other _ _ _ _ (fun e => hn (congrArg Addr.block e))).trans h.c0, by rw [World.frozen?_setCell]; exact h.f0, by simpa using h.lt⟩
theorem OneAt.ownFrom {β : Type} (B : Nat) (b : Nat) (v : β → Value) : OwnFrom B (fun s W => OneAt W b (v s)) := fun s A B' row hs hg hr => by
  have hne : some b ≠ row := fun e => by
    obtain ⟨-, o, ho, hoc⟩ := hr b e.symm
    have := hs.c0
    unfold World.cell? at this
    rw [ho] at this
    cases o <;> simp_all [Obj.isCells]
  exact ⟨(World.cell?_of_block (hg.block b hs.lt hne)).trans hs.c0, (World.frozen?_of_block (hg.block b hs.lt hne)).trans hs.f0, Nat.lt_of_lt_of_le hs.lt hg.size⟩
theorem Boxed.kept {W W' : World} {B : Nat} {P Q G : Int} {bs : List Nat} (h : Boxed W B P Q G) (hk : KeptBut bs W W') (hb : B ∉ bs) : Boxed W' B P Q G :=
  ⟨(hk.cell h.lt hb).trans h.c0, (hk.cell h.lt hb).trans h.c1, (hk.cell h.lt hb).trans h.c2, Nat.lt_of_lt_of_le h.lt hk.size⟩
theorem OwnU.isCells {W : World} {n₀ : Nat} {v : Value} {xs : List Int} (h : OwnU W n₀ v xs) : ∀ k, v.ownBlock = some k → ∃ o, W.heap[k]? = some o ∧ o.isCells = true := by
  intro k hk
  rcases h.2 with ⟨rfl, _⟩ | ⟨g, cap, cur, rfl, b, c, d⟩
  · simp [Value.ownBlock] at hk
  · obtain rfl : g = k := by simpa [Value.ownBlock] using hk
    exact ⟨_, c, rfl⟩
theorem OneAt.keepN {W W' : World} {b n : Nat} {v : Value} (h : OneAt W b v) (hb : Below n W W') (hn : b < n) : OneAt W' b v :=
  ⟨(hb.cell (p := ⟨b, 0, none⟩) hn).trans h.c0, (hb.frozen (p := ⟨b, 0, none⟩) hn).trans h.f0, Nat.lt_of_lt_of_le h.lt hb.size⟩
theorem OwnU.marks {W W' : World} {n₀ n₁ : Nat} {v : Value} {xs : List Int} {ds : List Nat} (h : OwnU W n₀ v xs) (hm : MarksAt W n₁ ds) (hk : KeptBut ds W W') : OwnU W' n₀ v xs := by
  refine ⟨h.1, ?_⟩
  rcases h.2 with h2 | ⟨g, cap, cur, a, b, c, d⟩
  · exact .inl h2
  · exact .inr ⟨g, cap, cur, a, b, (hk.block g (Array.getElem?_eq_some_iff.1 c).1 (fun hg => by rw [(hm.2 g hg).2] at c; cases c)).trans c, d⟩
theorem OwnU.sl {W : World} {n₀ : Nat} {v : Value} {xs : List Int} (h : OwnU W n₀ v xs) : ∃ a c, v = .slice a xs.length c := by
  obtain ⟨a, c, h, -⟩ := h.shI
  exact ⟨a, c, h⟩
theorem res_two {w : World} {fn : Func} {c d : Tmp} {b1 b2 : Nat} {v1 v2 : Value} (h : fn.results = #[.cell c 25, .cell d 30]) (hp : OneAt w b1 v1) (hq : OneAt w b2 v2) (tmps : Array Value)
    (hc : tmps[c]?.getD undef = .pointer (some ⟨b1, 0, none⟩)) (hd : tmps[d]?.getD undef = .pointer (some ⟨b2, 0, none⟩)) : (results fn tmps).run Try.prog w = .ok (.tuple #[v1, v2]) w := by
  have h0 := hp.c0
  have h1 := hq.c0
  simp [results, h, hc, hd, go_sem, h0, h1]
/-- A number below Q. -/
abbrev IdQ (Q : Int) := { x : Int // 0 ≤ x ∧ x < Q }
def idOf {Q : Int} (zs : List Int) (hz : ∀ k : Nat, 0 ≤ zs[k]?.getD 0 ∧ zs[k]?.getD 0 < Q) (k : Nat) : IdQ Q := ⟨zs[k]?.getD 0, hz k⟩
theorem upToF_map {Q : Int} (zs : List Int) (hz : ∀ k : Nat, 0 ≤ zs[k]?.getD 0 ∧ zs[k]?.getD 0 < Q) (i : Int) (k : Nat) (hk : k ≤ zs.length) : (upToF (fun x : IdQ Q => x.1) (idOf zs hz) i k).map (fun x => x.1) = (zs.take k).filter fun j => decide (j ≠ i) := by
  have e : ((List.range k).map (idOf zs hz)).map (fun x : IdQ Q => x.1) = zs.take k := by
    rw [List.map_map, ← upTo_take zs hk]; rfl
  rw [upToF, ← e]
  simp only [List.filter_map, List.map_map]
  rfl

/-- The frame of the outer loop. -/
def WgT (P Q G : Int) (w : World) (s o c : Nat) (ids : List Int) (v : Value) (k : Nat) (t : Array Value) : Prop := t.size = 61 ∧ t.getD 0 undef = .agg #[.int .u64 P, .int .u64 Q, .int .u64 G] ∧ t.getD 1 undef = .slice (some ⟨s, o, none⟩) ids.length c ∧ t.getD 2 undef = .pointer (some ⟨w.heap.size, 0, none⟩) ∧ t.getD 4 undef = .pointer (some ⟨w.heap.size + 1, 0, none⟩) ∧ t.getD 5 undef = .pointer (some ⟨w.heap.size + 1 + 1, 0, none⟩) ∧ t.getD 7 undef = v ∧ t.getD 23 undef = .slice (some ⟨s, o, none⟩) ids.length c ∧ t.getD 24 undef = .int .i64 ids.length ∧ t.getD 25 undef = .int .i64 k
theorem wgT_lit (P Q G : Int) (w : World) (s o c : Nat) (ids : List Int) (v : Value) (k : Nat) {t : Array Value} (h : WgT P Q G w s o c ids v k t) : ∃ u : Nat → Value, t = #[.agg #[.int .u64 P, .int .u64 Q, .int .u64 G], .slice (some ⟨s, o, none⟩) ids.length c, .pointer (some ⟨w.heap.size, 0, none⟩), u 3, .pointer (some ⟨w.heap.size + 1, 0, none⟩), .pointer (some ⟨w.heap.size + 1 + 1, 0, none⟩), u 6, v, u 8, u 9, u 10, u 11, u 12, u 13, u 14, u 15, u 16, u 17, u 18, u 19, u 20, u 21, u 22, .slice (some ⟨s, o, none⟩) ids.length c, .int .i64 ids.length, .int .i64 k, u 26, u 27, u 28, u 29, u 30, u 31, u 32, u 33, u 34, u 35, u 36, u 37, u 38, u 39, u 40, u 41, u 42, u 43, u 44, u 45, u 46, u 47, u 48, u 49, u 50, u 51, u 52, u 53, u 54, u 55, u 56, u 57, u 58, u 59, u 60] := by
  obtain ⟨hn, h0, h1, h2, h4, h5, h7, h23, h24, h25⟩ := h
  have e : t = ((List.range 61).map fun i => t.getD i undef).toArray := by
    apply Array.ext
    · simp [hn]
    · intro i h1 h2
      simp [h1]
  refine ⟨fun i => t.getD i undef, e.trans ?_⟩
  show #[t.getD 0 undef, t.getD 1 undef, t.getD 2 undef, t.getD 3 undef, t.getD 4 undef, t.getD 5 undef, t.getD 6 undef, t.getD 7 undef, t.getD 8 undef, t.getD 9 undef, t.getD 10 undef, t.getD 11 undef, t.getD 12 undef, t.getD 13 undef, t.getD 14 undef, t.getD 15 undef, t.getD 16 undef, t.getD 17 undef, t.getD 18 undef, t.getD 19 undef, t.getD 20 undef, t.getD 21 undef, t.getD 22 undef, t.getD 23 undef, t.getD 24 undef, t.getD 25 undef, t.getD 26 undef, t.getD 27 undef, t.getD 28 undef, t.getD 29 undef, t.getD 30 undef, t.getD 31 undef, t.getD 32 undef, t.getD 33 undef, t.getD 34 undef, t.getD 35 undef, t.getD 36 undef, t.getD 37 undef, t.getD 38 undef, t.getD 39 undef, t.getD 40 undef, t.getD 41 undef, t.getD 42 undef, t.getD 43 undef, t.getD 44 undef, t.getD 45 undef, t.getD 46 undef, t.getD 47 undef, t.getD 48 undef, t.getD 49 undef, t.getD 50 undef, t.getD 51 undef, t.getD 52 undef, t.getD 53 undef, t.getD 54 undef, t.getD 55 undef, t.getD 56 undef, t.getD 57 undef, t.getD 58 undef, t.getD 59 undef, t.getD 60 undef] = _
  rw [h0, h1, h2, h4, h5, h7, h23, h24, h25]

set_option maxRecDepth 100000 in
set_option maxHeartbeats 8000000 in
theorem sweights_any {P Q G er : Int} {a : Option Addr} {n c : Nat} {ids ws : List Int} (w : World) (hP : 0 ≤ P) (hQ : 0 ≤ Q) (hG : 0 ≤ G) (h : ShI .i64 w a n ids) (hn : n ≤ 1000000) (hx : ∀ x, x ∈ ids → I64 x) (hr : weightsS P Q G ids = (er, ws)) :
    Calls Try.prog 29 #[.agg #[.int .u64 P, .int .u64 Q, .int .u64 G], .slice a n c] w (RetRow w er ws) := by
  have HS := Lib.hid h
  have HLN := Lib.hid h.len
  have HX := Lib.hid hx
  clear h hx
  by_cases hH : Has P Q G
  case neg =>
    obtain ⟨rfl, rfl⟩ := Prod.mk.inj (show (300, []) = (er, ws) by rw [← hr]; simp [weightsS, hH])
    have HH := Lib.hid hH
    clear hr hH
    have F_g := Lib.hid (show Boxed (((w.alloc (.cells #[.int .u64 P, .int .u64 Q, .int .u64 G] 24)).alloc (.cells #[.slice none 0 0] 25)).alloc (.cells #[.int .i64 0] 30)) w.heap.size P Q G from ((Boxed.at _ P Q G _ w.heap.size (by simp)).alloc _).alloc _)
    have F_r := Lib.hid (show OneAt (((w.alloc (.cells #[.int .u64 P, .int .u64 Q, .int .u64 G] 24)).alloc (.cells #[.slice none 0 0] 25)).alloc (.cells #[.int .i64 0] 30)) (w.heap.size + 1) (.slice none 0 0) from (OneAt.at _ _ _ (w.heap.size + 1) (by simp)).alloc _)
    have F_e := Lib.hid (show OneAt (((w.alloc (.cells #[.int .u64 P, .int .u64 Q, .int .u64 G] 24)).alloc (.cells #[.slice none 0 0] 25)).alloc (.cells #[.int .i64 0] 30)) (w.heap.size + 1 + 1) (.int .i64 0) from OneAt.at _ _ _ (w.heap.size + 1 + 1) (by simp))
    have HBW := Lib.hid (show Below w.heap.size w (((w.alloc (.cells #[.int .u64 P, .int .u64 Q, .int .u64 G] 24)).alloc (.cells #[.slice none 0 0] 25)).alloc (.cells #[.int .i64 0] 30)) from (((Below.refl _ _).alloc (by simp <;> omega) _).alloc (by simp <;> omega) _).alloc (by simp <;> omega) _)
    refine (callsIn_wide (n := 6)).1 ?_
    refine callsIn_of_wp_marks Try.func29 rfl trivial ?_ rfl
    simp only [Try.ntmps29, List.size_toArray, List.length_cons, List.length_nil, Nat.reduceAdd, Nat.reduceSub, Array.replicate_succ, Array.replicate_zero, List.push_toArray, List.append_toArray, List.nil_append, List.cons_append]
    obtain ⟨x0a, x0b, x0c, -⟩ := id F_g.out
    obtain ⟨y0a, y0b, -⟩ := id F_r.out
    obtain ⟨z0a, z0b, -⟩ := id F_e.out
    gi_wp2_with fail
    clear x0a x0b x0c y0a y0b z0a z0b
    refine ⟨trivial, ?_⟩
    gi_at_call 47
    refine (callsIn_wide.2 (form_no P Q G _ hP hQ hG HH.out)).mono ?_
    rintro e w1 ⟨rfl, hb1⟩
    replace F_g := Lib.hid (F_g.out.keep hb1)
    replace F_r := Lib.hid (F_r.out.keep hb1)
    replace F_e := Lib.hid (F_e.out.keep hb1)
    replace HBW := Lib.hid (HBW.out.trans (hb1.mono HBW.out.size))
    clear hb1
    obtain ⟨x0a, x0b, x0c, -⟩ := id F_g.out
    obtain ⟨y0a, y0b, -⟩ := id F_r.out
    obtain ⟨z0a, z0b, -⟩ := id F_e.out
    gi_wp2
    clear x0a x0b x0c y0a y0b z0a z0b
    have F_r2 := Lib.hid ((F_r.out.stored (.slice none 0 0)).far (o := 0) (c := w.heap.size + 1 + 1) (by omega) (.int .i64 300))
    have F_e2 := Lib.hid ((F_e.out.far (o := 0) (c := w.heap.size + 1) (by omega) (.slice none 0 0)).stored (.int .i64 300))
    refine leaves_marks (n₀ := 0) [] _ (MarksAt.nil _ _) ?_
    intro W' hk hs
    exact ⟨_, res_two rfl (F_r2.out.kept hk (by simp)) (F_e2.out.kept hk (by simp)) _ rfl rfl, _, rfl, OwnU.nil _ _, ((HBW.out.setCell (p := ⟨w.heap.size + 1, 0, none⟩) (by show w.heap.size ≤ w.heap.size + 1; omega) _).setCell (p := ⟨w.heap.size + 1 + 1, 0, none⟩) (by show w.heap.size ≤ w.heap.size + 1 + 1; omega) _).trans (hk.below (by have := HBW.out.size; simp; omega) (fun b hb => by cases hb))⟩
  case pos =>
    obtain ⟨p5, p3, hQ', pq, g2, gP⟩ := id hH
    have q3 : Q < 1073741824 := by omega
    have q1 : 1 < Q := by omega
    have HH := Lib.hid hH
    clear pq
    cases hl : listS Q 1 ids
    case false =>
      obtain ⟨rfl, rfl⟩ := Prod.mk.inj (show (2, []) = (er, ws) by rw [← hr]; simp [weightsS, hH, hl])
      have HL := Lib.hid hl
      clear hr hl hH
      have F_g := Lib.hid (show Boxed (((w.alloc (.cells #[.int .u64 P, .int .u64 Q, .int .u64 G] 24)).alloc (.cells #[.slice none 0 0] 25)).alloc (.cells #[.int .i64 0] 30)) w.heap.size P Q G from ((Boxed.at _ P Q G _ w.heap.size (by simp)).alloc _).alloc _)
      have F_r := Lib.hid (show OneAt (((w.alloc (.cells #[.int .u64 P, .int .u64 Q, .int .u64 G] 24)).alloc (.cells #[.slice none 0 0] 25)).alloc (.cells #[.int .i64 0] 30)) (w.heap.size + 1) (.slice none 0 0) from (OneAt.at _ _ _ (w.heap.size + 1) (by simp)).alloc _)
      have F_e := Lib.hid (show OneAt (((w.alloc (.cells #[.int .u64 P, .int .u64 Q, .int .u64 G] 24)).alloc (.cells #[.slice none 0 0] 25)).alloc (.cells #[.int .i64 0] 30)) (w.heap.size + 1 + 1) (.int .i64 0) from OneAt.at _ _ _ (w.heap.size + 1 + 1) (by simp))
      have HBW := Lib.hid (show Below w.heap.size w (((w.alloc (.cells #[.int .u64 P, .int .u64 Q, .int .u64 G] 24)).alloc (.cells #[.slice none 0 0] 25)).alloc (.cells #[.int .i64 0] 30)) from (((Below.refl _ _).alloc (by simp <;> omega) _).alloc (by simp <;> omega) _).alloc (by simp <;> omega) _)
      refine (callsIn_wide (n := 6)).1 ?_
      refine callsIn_of_wp_marks Try.func29 rfl trivial ?_ rfl
      simp only [Try.ntmps29, List.size_toArray, List.length_cons, List.length_nil, Nat.reduceAdd, Nat.reduceSub, Array.replicate_succ, Array.replicate_zero, List.push_toArray, List.append_toArray, List.nil_append, List.cons_append]
      obtain ⟨x0a, x0b, x0c, -⟩ := id F_g.out
      obtain ⟨y0a, y0b, -⟩ := id F_r.out
      obtain ⟨z0a, z0b, -⟩ := id F_e.out
      gi_wp2_with fail
      clear x0a x0b x0c y0a y0b z0a z0b
      refine ⟨trivial, ?_⟩
      gi_at_call 47
      refine (callsIn_wide.2 (form_yes P Q G _ HH.out)).mono ?_
      rintro e w1 ⟨rfl, hb1⟩
      replace F_g := Lib.hid (F_g.out.keep hb1)
      replace F_r := Lib.hid (F_r.out.keep hb1)
      replace F_e := Lib.hid (F_e.out.keep hb1)
      replace HBW := Lib.hid (HBW.out.trans (hb1.mono HBW.out.size))
      clear hb1
      obtain ⟨x0a, x0b, x0c, -⟩ := id F_g.out
      obtain ⟨y0a, y0b, -⟩ := id F_r.out
      obtain ⟨z0a, z0b, -⟩ := id F_e.out
      gi_wp2_with fail
      clear x0a x0b x0c y0a y0b z0a z0b
      refine ⟨trivial, ?_⟩
      gi_at_call 67
      refine (callsIn_wide.2 (slisted_any _ (by omega) (by omega) (HS.out.keep HBW.out) hn HX.out HL.out)).mono ?_
      rintro e w2 ⟨rfl, hb2⟩
      replace F_g := Lib.hid (F_g.out.keep hb2)
      replace F_r := Lib.hid (F_r.out.keep hb2)
      replace F_e := Lib.hid (F_e.out.keep hb2)
      replace HBW := Lib.hid (HBW.out.trans (hb2.mono HBW.out.size))
      clear hb2
      obtain ⟨x0a, x0b, x0c, -⟩ := id F_g.out
      obtain ⟨y0a, y0b, -⟩ := id F_r.out
      obtain ⟨z0a, z0b, -⟩ := id F_e.out
      gi_wp2
      clear x0a x0b x0c y0a y0b z0a z0b
      have F_r2 := Lib.hid ((F_r.out.stored (.slice none 0 0)).far (o := 0) (c := w.heap.size + 1 + 1) (by omega) (.int .i64 2))
      have F_e2 := Lib.hid ((F_e.out.far (o := 0) (c := w.heap.size + 1) (by omega) (.slice none 0 0)).stored (.int .i64 2))
      refine leaves_marks (n₀ := 0) [] _ (MarksAt.nil _ _) ?_
      intro W' hk hs
      exact ⟨_, res_two rfl (F_r2.out.kept hk (by simp)) (F_e2.out.kept hk (by simp)) _ rfl rfl, _, rfl, OwnU.nil _ _, ((HBW.out.setCell (p := ⟨w.heap.size + 1, 0, none⟩) (by show w.heap.size ≤ w.heap.size + 1; omega) _).setCell (p := ⟨w.heap.size + 1 + 1, 0, none⟩) (by show w.heap.size ≤ w.heap.size + 1 + 1; omega) _).trans (hk.below (by have := HBW.out.size; simp; omega) (fun b hb => by cases hb))⟩
    case true =>
      have HL := Lib.hid hl
      have hr' : (match wAll Q ids ids with | some ws => (0, ws) | none => (6, [])) = (er, ws) := by rw [← hr]; simp [weightsS, hH, hl]
      have HR := Lib.hid hr'
      clear hr hr'
      obtain ⟨l1, l8, hinc⟩ := listS_true hl
      obtain ⟨s, o, rfl, hn', hs, hcell⟩ : ∃ s o, a = some ⟨s, o, none⟩ ∧ n = ids.length ∧ s < w.heap.size ∧ ∀ i, i < ids.length → w.cell? ⟨s, o + i, none⟩ = some (.int .i64 (ids.getD i 0)) := by
        rcases HS.out with ⟨h0, h1⟩ | h
        · rw [h1] at l1; simp at l1
        · exact h
      subst hn'
      have HC := Lib.hid hcell
      have hz : ∀ k : Nat, 0 ≤ ids[k]?.getD 0 ∧ ids[k]?.getD 0 < Q := getD_range (by omega) ids (fun x hx => by have := numS_true (incS_mem hinc x hx).2; exact ⟨this.1, this.2.2⟩)
      have hI8 : ∀ k : Nat, ids[k]?.getD 0 ≤ 8 := fun k => by
        rcases hk : ids[k]? with _ | x
        · simp
        · exact (numS_true (incS_mem hinc x (List.mem_of_getElem? hk)).2).2.1
      clear hcell hinc hl hH
      have F_g := Lib.hid (show Boxed (((w.alloc (.cells #[.int .u64 P, .int .u64 Q, .int .u64 G] 24)).alloc (.cells #[.slice none 0 0] 25)).alloc (.cells #[.int .i64 0] 30)) w.heap.size P Q G from ((Boxed.at _ P Q G _ w.heap.size (by simp)).alloc _).alloc _)
      have F_r := Lib.hid (show OneAt (((w.alloc (.cells #[.int .u64 P, .int .u64 Q, .int .u64 G] 24)).alloc (.cells #[.slice none 0 0] 25)).alloc (.cells #[.int .i64 0] 30)) (w.heap.size + 1) (.slice none 0 0) from (OneAt.at _ _ _ (w.heap.size + 1) (by simp)).alloc _)
      have F_e := Lib.hid (show OneAt (((w.alloc (.cells #[.int .u64 P, .int .u64 Q, .int .u64 G] 24)).alloc (.cells #[.slice none 0 0] 25)).alloc (.cells #[.int .i64 0] 30)) (w.heap.size + 1 + 1) (.int .i64 0) from OneAt.at _ _ _ (w.heap.size + 1 + 1) (by simp))
      have HBW := Lib.hid (show Below w.heap.size w (((w.alloc (.cells #[.int .u64 P, .int .u64 Q, .int .u64 G] 24)).alloc (.cells #[.slice none 0 0] 25)).alloc (.cells #[.int .i64 0] 30)) from (((Below.refl _ _).alloc (by simp <;> omega) _).alloc (by simp <;> omega) _).alloc (by simp <;> omega) _)
      refine (callsIn_wide (n := 6)).1 ?_
      refine callsIn_of_wp_marks Try.func29 rfl trivial ?_ rfl
      simp only [Try.ntmps29, List.size_toArray, List.length_cons, List.length_nil, Nat.reduceAdd, Nat.reduceSub, Array.replicate_succ, Array.replicate_zero, List.push_toArray, List.append_toArray, List.nil_append, List.cons_append]
      obtain ⟨x0a, x0b, x0c, -⟩ := id F_g.out
      obtain ⟨y0a, y0b, -⟩ := id F_r.out
      obtain ⟨z0a, z0b, -⟩ := id F_e.out
      gi_wp2_with fail
      clear x0a x0b x0c y0a y0b z0a z0b
      refine ⟨trivial, ?_⟩
      gi_at_call 47
      refine (callsIn_wide.2 (form_yes P Q G _ HH.out)).mono ?_
      rintro e w1 ⟨rfl, hb1⟩
      replace F_g := Lib.hid (F_g.out.keep hb1)
      replace F_r := Lib.hid (F_r.out.keep hb1)
      replace F_e := Lib.hid (F_e.out.keep hb1)
      replace HBW := Lib.hid (HBW.out.trans (hb1.mono HBW.out.size))
      clear hb1
      obtain ⟨x0a, x0b, x0c, -⟩ := id F_g.out
      obtain ⟨y0a, y0b, -⟩ := id F_r.out
      obtain ⟨z0a, z0b, -⟩ := id F_e.out
      gi_wp2_with fail
      clear x0a x0b x0c y0a y0b z0a z0b
      refine ⟨trivial, ?_⟩
      gi_at_call 67
      refine (callsIn_wide.2 (slisted_any _ (by omega) (by omega) (HS.out.keep HBW.out) hn HX.out HL.out)).mono ?_
      rintro e w2 ⟨rfl, hb2⟩
      replace F_g := Lib.hid (F_g.out.keep hb2)
      replace F_r := Lib.hid (F_r.out.keep hb2)
      replace F_e := Lib.hid (F_e.out.keep hb2)
      replace HBW := Lib.hid (HBW.out.trans (hb2.mono HBW.out.size))
      clear hb2
      obtain ⟨x0a, x0b, x0c, -⟩ := id F_g.out
      obtain ⟨y0a, y0b, -⟩ := id F_r.out
      obtain ⟨z0a, z0b, -⟩ := id F_e.out
      gi_wp2
      clear x0a x0b x0c y0a y0b z0a z0b
      have hz2 := HBW.out.size
      have hg2 := F_e.out.lt
      clear HS
      refine wpIn_loop (fun a W => ∃ (k : Nat) (ds : List Nat) (v : Value) (wk : List Int), WgT P Q G w s o c ids v k a.tmps ∧ a.defers = marks ds ∧ k ≤ ids.length ∧ wAll Q ids (ids.take k) = some wk ∧ Boxed W w.heap.size P Q G ∧ OneAt W (w.heap.size + 1) (.slice none 0 0) ∧ OneAt W (w.heap.size + 1 + 1) (.int .i64 0) ∧ OwnU W (w.heap.size + 3) v wk ∧ MarksAt W (w.heap.size + 3) ds ∧ Below w.heap.size w W) (fun a _ => ids.length - (intOf (a.tmps.getD 25 undef)).toNat) ?_ ?_
      · exact ⟨0, [], .slice none 0 0, [], ⟨rfl, rfl, rfl, rfl, rfl, rfl, rfl, rfl, rfl, rfl⟩, rfl, Nat.zero_le _, rfl, F_g.out, F_r.out, F_e.out, OwnU.nil _ _, MarksAt.nil _ _, HBW.out⟩
      clear F_g F_r F_e HBW hz2 hg2
      rintro ⟨tm, df⟩ wr ⟨k, ds, v, wk, ht, hdf, hk, hw, f_g, f_r, f_e, f_o, f_m, hbw⟩
      obtain ⟨u, hu⟩ := wgT_lit P Q G w s o c ids v k ht
      dsimp only at hu hdf
      subst hu hdf
      have F_g := Lib.hid f_g
      have F_r := Lib.hid f_r
      have F_e := Lib.hid f_e
      have F_o := Lib.hid f_o
      have F_m := Lib.hid f_m
      have HBW := Lib.hid hbw
      have HWK := Lib.hid hw
      have hzr := f_e.lt
      clear ht f_g f_r f_e f_o f_m hbw hw
      have hk0 : (0 : Int) ≤ (k : Int) := by omega
      by_cases hlt : k < ids.length
      case neg =>
        have hkn : k = ids.length := by omega
        rw [hkn, List.take_length] at HWK
        have hr2 := HR.out
        rw [HWK.out] at hr2
        obtain ⟨rfl, rfl⟩ := Prod.mk.inj hr2
        clear hkn hr2
        obtain ⟨oa, oc, rfl⟩ := F_o.out.sl
        obtain ⟨x0a, x0b, x0c, -⟩ := id F_g.out
        obtain ⟨y0a, y0b, -⟩ := id F_r.out
        obtain ⟨z0a, z0b, -⟩ := id F_e.out
        gi_wp2
        have F_r2 := Lib.hid ((F_r.out.stored (.slice oa wk.length oc)).far (o := 0) (c := w.heap.size + 1 + 1) (by omega) (.int .i64 0))
        have F_e2 := Lib.hid ((F_e.out.far (o := 0) (c := w.heap.size + 1) (by omega) (.slice oa wk.length oc)).stored (.int .i64 0))
        have K1 : KeptBut [w.heap.size + 1, w.heap.size + 1 + 1] wr ((wr.setCell ⟨w.heap.size + 1, 0, none⟩ (.slice oa wk.length oc)).setCell ⟨w.heap.size + 1 + 1, 0, none⟩ (.int .i64 0)) := (KeptBut.setCell (by simp) _).trans (KeptBut.setCell (by simp) _)
        refine leaves_marks (n₀ := w.heap.size + 3) ds _ (F_m.out.kept K1 (fun b hb => by simp at hb; omega)) ?_
        intro W' hk hs
        have hnm1 : w.heap.size + 1 ∉ ds := fun hm => by have := (F_m.out.2 _ hm).1; omega
        have hnm2 : w.heap.size + 1 + 1 ∉ ds := fun hm => by have := (F_m.out.2 _ hm).1; omega
        refine ⟨_, res_two rfl (F_r2.out.kept hk hnm1) (F_e2.out.kept hk hnm2) _ rfl rfl, _, rfl, ?_, ?_⟩
        · refine OwnU.mono (n₁ := w.heap.size + 3) ?_ (by omega)
          exact OwnU.marks (F_o.out.kept K1 (fun b hb => by simp at hb; omega)) (F_m.out.kept K1 (fun b hb => by simp at hb; omega)) hk
        · exact (HBW.out.trans (K1.below (by omega) (fun b hb => by simp at hb; omega))).trans (hk.below (by simp; omega) (fun b hb => by have := (F_m.out.2 b hb).1; omega))
      case pos =>
        obtain ⟨x, hx⟩ : ∃ x, ids[k]?.getD 0 = x := ⟨_, rfl⟩
        have x0 : 0 ≤ x := by rw [← hx]; exact (hz k).1
        have xQ : x < Q := by rw [← hx]; exact (hz k).2
        have x8 : x ≤ 8 := by rw [← hx]; exact hI8 k
        have hck : wr.cell? ⟨s, o + k, none⟩ = some (.int .i64 x) := by
          rw [HBW.out.cell (p := ⟨s, o + k, none⟩) hs, HC.out k hlt, List.getD_eq_getElem?_getD, hx]
        have HXK := Lib.hid hx
        have hwx : IntKind.u64.wrap x = x := wrap_u x0 (by omega)
        have hk1 : (k : Int) < (ids.length : Int) := by omega
        clear hx
        gi_wp2_with fail
        refine ⟨trivial, ?_⟩
        gi_at_call 68
        refine (oth_in Fence.wide _ trivial rfl _ _ _ _ _).mono ?_
        rintro e w5 ⟨rfl, rfl⟩
        clear hck
        obtain ⟨W0, hW0⟩ : ∃ W0, (((wr.alloc (.cells #[.int .i64 x] 3)).alloc (.cells #[.int .u64 1] 22)).alloc (.cells #[.slice (some ⟨s, o, none⟩) ids.length c] 51)).alloc (.cells #[.int .i64 x] 3) = W0 := ⟨_, rfl⟩
        gi_wp2
        try rw [hW0]
        have hsz : W0.heap.size = wr.heap.size + 4 := by rw [← hW0]; simp
        have hb0 : Below wr.heap.size wr W0 := by
          rw [← hW0]
          exact ((((Below.refl _ wr).alloc (Nat.le_refl _) _).alloc (by simp) _).alloc (by simp; omega) _).alloc (by simp; omega) _
        have hbi : OneAt W0 wr.heap.size (.int .i64 x) := by rw [← hW0]; exact ((((OneAt.at _ _ _ _ rfl).alloc _).alloc _).alloc _)
        have hwb : OneAt W0 (wr.heap.size + 1) (.int .u64 1) := by rw [← hW0]; exact (((OneAt.at _ _ _ _ (by simp)).alloc _).alloc _)
        have hB1 : OneAt W0 (wr.heap.size + 1 + 1) (.slice (some ⟨s, o, none⟩) ids.length c) := by rw [← hW0]; exact ((OneAt.at _ _ _ _ (by simp)).alloc _)
        have hB2 : OneAt W0 (wr.heap.size + 1 + 1 + 1) (.int .i64 x) := by rw [← hW0]; exact (OneAt.at _ _ _ _ (by simp))
        clear hW0
        have HB0 := Lib.hid hb0
        have hlen := hk
        refine wpIn_rangeFunc_ownG rfl (by omega) (gf := 89) (lb := #[.pointer (some ⟨wr.heap.size + 1 + 1, 0, none⟩), .pointer (some ⟨wr.heap.size + 1 + 1 + 1, 0, none⟩)]) rfl trivial (enters_of Try.func89 (by kernel_rfl) rfl)
          (oth_stops Fence.wide (6 - 1) trivial rfl (by omega) (wr.heap.size + 1 + 1) (wr.heap.size + 1 + 1 + 1) s o c (fun y : IdQ Q => y.1) (idOf ids hz) ids x (fun k _ => rfl) (by omega) W0 (by omega) (by omega) (by have := HBW.out.size; omega) hB1.c0 hB2.c0 (fun j hj => by
            rw [hb0.cell (p := ⟨s, o + j, none⟩) (by have := HBW.out.size; show s < _; omega), HBW.out.cell (p := ⟨s, o + j, none⟩) hs, HC.out j hj, List.getD_eq_getElem?_getD]))
          (fun h k => KpL.trans h k) (fun W l o o' hl h a b => KpL.put (w := W0) (fun b hb => by have := HBW.out.size; simp at hb; omega) W l o o' hl h a b) (Below.refl _ _) (fun _ => rfl)
          (fun pre W => (KeptBut [wr.heap.size + 1] W0 W) ∧ ∃ acc : Int, wOneL Q x 1 (pre.map fun y => y.1) = some acc ∧ OneAt W (wr.heap.size + 1) (.int .u64 acc))
          (fun cd pre W => cd = Code.ret ∧ wOneL Q x 1 (pre.map fun y => y.1) = none ∧ KeptBut [wr.heap.size + 1, w.heap.size + 1, w.heap.size + 1 + 1] W0 W ∧ OneAt W (w.heap.size + 1) (.slice none 0 0) ∧ OneAt W (w.heap.size + 1 + 1) (.int .i64 6))
          (fun s A B row hs hg hr => ⟨KeptBut.ownFrom _ _ s A B row hs.1 hg hr, by
            obtain ⟨acc, h1, h2⟩ := hs.2
            exact ⟨acc, h1, OneAt.ownFrom W0.heap.size _ (fun _ => .int .u64 acc) s A B row h2 hg hr⟩⟩)
          (fun cd s A B row hs hg hr => ⟨hs.1, hs.2.1, KeptBut.ownFrom _ _ s A B row hs.2.2.1 hg hr, OneAt.ownFrom W0.heap.size _ (fun _ => .slice none 0 0) s A B row hs.2.2.2.1 hg hr, OneAt.ownFrom W0.heap.size _ (fun _ => .int .i64 6) s A B row hs.2.2.2.2 hg hr⟩)
          ⟨KeptBut.refl _ _, 1, rfl, hwb⟩
          (fun y => { tmps := #[.agg #[.int .u64 P, .int .u64 Q, .int .u64 G], .slice (some ⟨s, o, none⟩) ids.length c, .pointer (some ⟨w.heap.size, 0, none⟩), u 3, .pointer (some ⟨w.heap.size + 1, 0, none⟩), .pointer (some ⟨w.heap.size + 1 + 1, 0, none⟩), u 6, v, u 8, .pointer (some ⟨wr.heap.size, 0, none⟩), .pointer (some ⟨wr.heap.size + 1, 0, none⟩), .int .i64 y.1, u 12, u 13, u 14, u 15, u 16, u 17, u 18, u 19, u 20, u 21, u 22, .slice (some ⟨s, o, none⟩) ids.length c, .int .i64 ids.length, .int .i64 k, .bool true, .pointer (some ⟨s, o + k, none⟩), .int .i64 x, .slice (some ⟨s, o, none⟩) ids.length c, .int .i64 x, .func (.func 89) #[] #[.pointer (some ⟨wr.heap.size + 1 + 1, 0, none⟩), .pointer (some ⟨wr.heap.size + 1 + 1 + 1, 0, none⟩)], .int .i64 y.1, u 33, u 34, u 35, u 36, u 37, u 38, u 39, u 40, u 41, u 42, u 43, u 44, u 45, u 46, u 47, u 48, u 49, u 50, u 51, u 52, u 53, u 54, u 55, u 56, u 57, u 58, u 59, u 60], defers := [] }) ?assign ?body ?done ?stop
        case assign =>
          intro l y W K hK
          gi_wp2
          exact hK
        case body =>
          rintro l pre ⟨j, j0, jQ⟩ W ⟨hkb, acc, hacc, hone⟩ hl
          have hWs := hkb.size
          have j8' : j < 9223372036854775808 := by omega
          have hwj : IntKind.u64.wrap j = j := wrap_u j0 (by omega)
          have HKB := Lib.hid hkb
          have HACC := Lib.hid hacc
          obtain ⟨a0, aQ⟩ := wOneL_range (by omega) _ 1 acc (by omega) (by omega) hacc
          obtain ⟨d, hd⟩ : ∃ d, (j - x) % Q = d := ⟨_, rfl⟩
          have d0 : 0 ≤ d := by rw [← hd]; exact Int.emod_nonneg _ (by omega)
          have dQ : d < Q := by rw [← hd]; exact Int.emod_lt_of_pos _ (by omega)
          have HD := Lib.hid hd
          have fg0 := ((F_g.out.keep HB0.out).kept HKB.out (B := w.heap.size) (by simp; omega))
          have hbi' := hbi.kept HKB.out (by simp)
          have HFG := Lib.hid fg0
          have HBI := Lib.hid hbi'
          have HONE := Lib.hid hone
          clear hkb hacc hd fg0 hbi'
          have hSk : ∀ W', Below W.heap.size W W' → SBox W' w.heap.size P Q G ∧ W'.cell? ⟨wr.heap.size, 0, none⟩ = some (.int .i64 x) ∧ W'.cell? ⟨wr.heap.size + 1, 0, none⟩ = some (.int .u64 acc) := fun W' h => ⟨(HFG.out.keep h).s, (HBI.out.keep h).c0, (HONE.out.keep h).c0⟩
          have HB7 := Lib.hid ((Below.refl W.heap.size W).drew)
          have hS := hSk _ HB7.out
          cases hi : invF Q d with
          | none =>
            obtain ⟨u, hu'⟩ : ∃ u : Int, u = 0 := ⟨0, rfl⟩
            have HU := Lib.hid (show InvS Q d false u by rw [hu']; exact invS_none (by omega) hi)
            have HI := Lib.hid hi
            clear hi hu'
            gi_wp2_with fail
            refine wpIn_region_stage 12 (fun W' => SBox W' w.heap.size P Q G ∧ W'.cell? ⟨wr.heap.size, 0, none⟩ = some (.int .i64 x) ∧ W'.cell? ⟨wr.heap.size + 1, 0, none⟩ = some (.int .u64 acc)) (by kernel_rfl) (by kernel_rfl) ?_
            refine wpAnyB_take (i := 0) (some 34) (Op.load 24 (Operand.tmp 2)) 24 (v := ?_) ⟨_, rfl, rfl, rfl, rfl, rfl⟩ (by kernel_rfl) (by kernel_rfl) (by kernel_rfl) [7, 8, 9, 10, 11, 12] (by kernel_rfl) (fun _ _ _ h => h) hS (fun w' hSw => ?_) ?_
            rotate_left
            · obtain ⟨⟨b0, b1, b2⟩, b3, b4⟩ := hSw
              unfold bareOp
              go_simp
              try with_reducible rfl
            simp only [Act.put, List.setIfInBounds_toArray, List.set_cons_zero, List.set_cons_succ]
            refine wpAnyB_take (i := 1) (some 35) (Op.load 24 (Operand.tmp 2)) 24 (v := ?_) ⟨_, rfl, rfl, rfl, rfl, rfl⟩ (by kernel_rfl) (by kernel_rfl) (by kernel_rfl) [6, 7, 8, 9, 10, 11, 12] (by kernel_rfl) (fun _ _ _ h => h) hS (fun w' hSw => ?_) ?_
            rotate_left
            · obtain ⟨⟨b0, b1, b2⟩, b3, b4⟩ := hSw
              unfold bareOp
              go_simp
              try with_reducible rfl
            simp only [Act.put, List.setIfInBounds_toArray, List.set_cons_zero, List.set_cons_succ]
            refine wpAnyB_takeP (i := 2) (some 36) (Op.move (Operand.tmp 11)) 3 (v := ?_) ⟨_, rfl, rfl, rfl, rfl, rfl⟩ (by kernel_rfl) (by kernel_rfl) (by kernel_rfl) (by kernel_rfl) (fun _ _ _ h => h) (fun _ => hS) (fun w' => ?_) ?_
            rotate_left
            · unfold bareOp
              go_simp
              try with_reducible rfl
            simp only [Act.put, List.setIfInBounds_toArray, List.set_cons_zero, List.set_cons_succ]
            refine wpAnyB_takeP (i := 3) (some 37) (Op.convert 3 22 (Operand.tmp 36)) 22 (v := ?_) ⟨_, rfl, rfl, rfl, rfl, rfl⟩ (by kernel_rfl) (by kernel_rfl) (by kernel_rfl) (by kernel_rfl) (fun _ _ _ h => h) (fun _ => hS) (fun w' => ?_) ?_
            rotate_left
            · unfold bareOp
              go_simp
              try with_reducible rfl
            simp only [Act.put, List.setIfInBounds_toArray, List.set_cons_zero, List.set_cons_succ]
            refine wpAnyB_take (i := 4) (some 38) (Op.load 3 (Operand.tmp 9)) 3 (v := ?_) ⟨_, rfl, rfl, rfl, rfl, rfl⟩ (by kernel_rfl) (by kernel_rfl) (by kernel_rfl) [5, 6, 7, 8, 9, 10, 11, 12] (by kernel_rfl) (fun _ _ _ h => h) hS (fun w' hSw => ?_) ?_
            rotate_left
            · obtain ⟨⟨b0, b1, b2⟩, b3, b4⟩ := hSw
              unfold bareOp
              go_simp
              try with_reducible rfl
            simp only [Act.put, List.setIfInBounds_toArray, List.set_cons_zero, List.set_cons_succ]
            refine wpAnyB_takeP (i := 5) (some 39) (Op.convert 3 22 (Operand.tmp 38)) 22 (v := ?_) ⟨_, rfl, rfl, rfl, rfl, rfl⟩ (by kernel_rfl) (by kernel_rfl) (by kernel_rfl) (by kernel_rfl) (fun _ _ _ h => h) (fun _ => hS) (fun w' => ?_) ?_
            rotate_left
            · unfold bareOp
              go_simp
              try with_reducible rfl
            simp only [Act.put, List.setIfInBounds_toArray, List.set_cons_zero, List.set_cons_succ]
            refine wpAnyB_only (i := 6) (some 40) (Op.call { callee := Callee.value (Operand.func 70), args := #[Operand.tmp 35, Operand.tmp 37, Operand.tmp 39], argTypes := #[24, 22, 22] }) 22 ⟨_, rfl, rfl, rfl, rfl, rfl⟩ (by kernel_rfl) (fun K hK => ?_)
            unfold bareOp
            go_wp2_with (go_at_call 70; refine (sless_ok _ HH.out j0 jQ x0 xQ HD.out).mono ?_; rintro e w7 ⟨rfl, hb7⟩)
            replace HB7 := Lib.hid (HB7.out.trans (hb7.mono HB7.out.size))
            replace hS := hSk _ HB7.out
            clear hb7
            refine hK.out _ _ (fun _ => hS) ?_
            clear hK K
            try simp only [Act.put, List.setIfInBounds_toArray, List.set_cons_zero, List.set_cons_succ]
            refine wpAnyB_only (i := 7) (some 41) (Op.call { callee := Callee.value (Operand.func 69), args := #[Operand.tmp 34, Operand.tmp 40], argTypes := #[24, 22] }) 39 ⟨_, rfl, rfl, rfl, rfl, rfl⟩ (by kernel_rfl) (fun K hK => ?_)
            unfold bareOp
            go_wp2_with (go_at_call 69; refine (invExp_ok P Q G d u 6 false _ HH.out d0 dQ HU.out rfl).mono ?_; rintro e w7 ⟨rfl, hb7⟩)
            replace HB7 := Lib.hid (HB7.out.trans (hb7.mono HB7.out.size))
            replace hS := hSk _ HB7.out
            clear hb7
            refine hK.out _ _ (fun _ => hS) ?_
            clear hK K
            try simp only [Act.put, List.setIfInBounds_toArray, List.set_cons_zero, List.set_cons_succ]
            refine wpAnyB_takeP (i := 8) (some 33) (Op.move (Operand.tmp 41)) 39 (v := ?_) ⟨_, rfl, rfl, rfl, rfl, rfl⟩ (by kernel_rfl) (by kernel_rfl) (by kernel_rfl) (by kernel_rfl) (fun _ _ _ h => h) (fun _ => hS) (fun w' => ?_) ?_
            rotate_left
            · unfold bareOp
              go_simp
              try with_reducible rfl
            simp only [Act.put, List.setIfInBounds_toArray, List.set_cons_zero, List.set_cons_succ]
            refine wpAnyB_takeP (i := 9) (some 42) (Op.extract (Operand.tmp 33) 0) 22 (v := ?_) ⟨_, rfl, rfl, rfl, rfl, rfl⟩ (by kernel_rfl) (by kernel_rfl) (by kernel_rfl) (by kernel_rfl) (fun _ _ _ h => h) (fun _ => hS) (fun w' => ?_) ?_
            rotate_left
            · unfold bareOp
              go_simp
              try with_reducible rfl
            simp only [Act.put, List.setIfInBounds_toArray, List.set_cons_zero, List.set_cons_succ]
            refine wpAnyB_takeP (i := 10) (some 43) (Op.extract (Operand.tmp 33) 1) 30 (v := ?_) ⟨_, rfl, rfl, rfl, rfl, rfl⟩ (by kernel_rfl) (by kernel_rfl) (by kernel_rfl) (by kernel_rfl) (fun _ _ _ h => h) (fun _ => hS) (fun w' => ?_) ?_
            rotate_left
            · unfold bareOp
              go_simp
              try with_reducible rfl
            simp only [Act.put, List.setIfInBounds_toArray, List.set_cons_zero, List.set_cons_succ]
            refine wpAnyB_takeP (i := 11) (some 12) (Op.assign (Operand.tmp 42)) 22 (v := ?_) ⟨_, rfl, rfl, rfl, rfl, rfl⟩ (by kernel_rfl) (by kernel_rfl) (by kernel_rfl) (by kernel_rfl) (fun _ _ _ h => h) (fun _ => hS) (fun w' => ?_) ?_
            rotate_left
            · unfold bareOp
              go_simp
              try with_reducible rfl
            simp only [Act.put, List.setIfInBounds_toArray, List.set_cons_zero, List.set_cons_succ]
            refine wpAnyB_only (i := 12) (some 13) (Op.assign (Operand.tmp 43)) 30 ⟨_, rfl, rfl, rfl, rfl, rfl⟩ (by kernel_rfl) (fun K hK => ?_)
            unfold bareOp
            go_wp2_with fail
            refine hK.out _ _ (fun h => absurd (h.symm.trans (by kernel_rfl : _ = true)) (by decide)) ?_
            clear hK K
            try simp only [Act.put, List.setIfInBounds_toArray, List.set_cons_zero, List.set_cons_succ]
            refine wpAnyB_done (by kernel_rfl) ?_ _
            unfold OnlyN
            have F_r7 := Lib.hid (((F_r.out.keep HB0.out).kept HKB.out (by simp; omega)).keep HB7.out)
            have F_e7 := Lib.hid (((F_e.out.keep HB0.out).kept HKB.out (by simp; omega)).keep HB7.out)
            have hz7 := HB7.out.size
            obtain ⟨y0a, y0b, -⟩ := id F_r7.out
            obtain ⟨z0a, z0b, -⟩ := id F_e7.out
            gi_wp2
            have K2 : KeptBut [wr.heap.size + 1, w.heap.size + 1, w.heap.size + 1 + 1] W ((w7.setCell ⟨w.heap.size + 1, 0, none⟩ (.slice none 0 0)).setCell ⟨w.heap.size + 1 + 1, 0, none⟩ (.int .i64 6)) :=
              ((KeptBut.of_below HB7.out).trans (KeptBut.setCell (by simp) _)).trans (KeptBut.setCell (by simp) _)
            refine ⟨((below_from HB7.out (Nat.le_refl _)).trans ((KeepsOthers.setCell _ _ _).from _)).trans ((KeepsOthers.setCell _ _ _).from _), rfl, ?_, (HKB.out.mono (by simp)).trans K2, (F_r7.out.stored _).far (by omega) _, (F_e7.out.far (by omega) _).stored _⟩
            rw [List.map_append, wOneL_append, HACC.out]
            show wOneL Q x acc [j] = none
            simp only [wOneL]
            rw [HD.out, HI.out]
          | some u =>
            have HU := Lib.hid (invS_some hi)
            have HI := Lib.hid hi
            obtain ⟨u0, uQ, -⟩ := invF_some hi
            clear hi
            gi_wp2_with fail
            refine wpIn_region_stage 12 (fun W' => SBox W' w.heap.size P Q G ∧ W'.cell? ⟨wr.heap.size, 0, none⟩ = some (.int .i64 x) ∧ W'.cell? ⟨wr.heap.size + 1, 0, none⟩ = some (.int .u64 acc)) (by kernel_rfl) (by kernel_rfl) ?_
            refine wpAnyB_take (i := 0) (some 34) (Op.load 24 (Operand.tmp 2)) 24 (v := ?_) ⟨_, rfl, rfl, rfl, rfl, rfl⟩ (by kernel_rfl) (by kernel_rfl) (by kernel_rfl) [7, 8, 9, 10, 11, 12] (by kernel_rfl) (fun _ _ _ h => h) hS (fun w' hSw => ?_) ?_
            rotate_left
            · obtain ⟨⟨b0, b1, b2⟩, b3, b4⟩ := hSw
              unfold bareOp
              go_simp
              try with_reducible rfl
            simp only [Act.put, List.setIfInBounds_toArray, List.set_cons_zero, List.set_cons_succ]
            refine wpAnyB_take (i := 1) (some 35) (Op.load 24 (Operand.tmp 2)) 24 (v := ?_) ⟨_, rfl, rfl, rfl, rfl, rfl⟩ (by kernel_rfl) (by kernel_rfl) (by kernel_rfl) [6, 7, 8, 9, 10, 11, 12] (by kernel_rfl) (fun _ _ _ h => h) hS (fun w' hSw => ?_) ?_
            rotate_left
            · obtain ⟨⟨b0, b1, b2⟩, b3, b4⟩ := hSw
              unfold bareOp
              go_simp
              try with_reducible rfl
            simp only [Act.put, List.setIfInBounds_toArray, List.set_cons_zero, List.set_cons_succ]
            refine wpAnyB_takeP (i := 2) (some 36) (Op.move (Operand.tmp 11)) 3 (v := ?_) ⟨_, rfl, rfl, rfl, rfl, rfl⟩ (by kernel_rfl) (by kernel_rfl) (by kernel_rfl) (by kernel_rfl) (fun _ _ _ h => h) (fun _ => hS) (fun w' => ?_) ?_
            rotate_left
            · unfold bareOp
              go_simp
              try with_reducible rfl
            simp only [Act.put, List.setIfInBounds_toArray, List.set_cons_zero, List.set_cons_succ]
            refine wpAnyB_takeP (i := 3) (some 37) (Op.convert 3 22 (Operand.tmp 36)) 22 (v := ?_) ⟨_, rfl, rfl, rfl, rfl, rfl⟩ (by kernel_rfl) (by kernel_rfl) (by kernel_rfl) (by kernel_rfl) (fun _ _ _ h => h) (fun _ => hS) (fun w' => ?_) ?_
            rotate_left
            · unfold bareOp
              go_simp
              try with_reducible rfl
            simp only [Act.put, List.setIfInBounds_toArray, List.set_cons_zero, List.set_cons_succ]
            refine wpAnyB_take (i := 4) (some 38) (Op.load 3 (Operand.tmp 9)) 3 (v := ?_) ⟨_, rfl, rfl, rfl, rfl, rfl⟩ (by kernel_rfl) (by kernel_rfl) (by kernel_rfl) [5, 6, 7, 8, 9, 10, 11, 12] (by kernel_rfl) (fun _ _ _ h => h) hS (fun w' hSw => ?_) ?_
            rotate_left
            · obtain ⟨⟨b0, b1, b2⟩, b3, b4⟩ := hSw
              unfold bareOp
              go_simp
              try with_reducible rfl
            simp only [Act.put, List.setIfInBounds_toArray, List.set_cons_zero, List.set_cons_succ]
            refine wpAnyB_takeP (i := 5) (some 39) (Op.convert 3 22 (Operand.tmp 38)) 22 (v := ?_) ⟨_, rfl, rfl, rfl, rfl, rfl⟩ (by kernel_rfl) (by kernel_rfl) (by kernel_rfl) (by kernel_rfl) (fun _ _ _ h => h) (fun _ => hS) (fun w' => ?_) ?_
            rotate_left
            · unfold bareOp
              go_simp
              try with_reducible rfl
            simp only [Act.put, List.setIfInBounds_toArray, List.set_cons_zero, List.set_cons_succ]
            refine wpAnyB_only (i := 6) (some 40) (Op.call { callee := Callee.value (Operand.func 70), args := #[Operand.tmp 35, Operand.tmp 37, Operand.tmp 39], argTypes := #[24, 22, 22] }) 22 ⟨_, rfl, rfl, rfl, rfl, rfl⟩ (by kernel_rfl) (fun K hK => ?_)
            unfold bareOp
            go_wp2_with (go_at_call 70; refine (sless_ok _ HH.out j0 jQ x0 xQ HD.out).mono ?_; rintro e w7 ⟨rfl, hb7⟩)
            replace HB7 := Lib.hid (HB7.out.trans (hb7.mono HB7.out.size))
            replace hS := hSk _ HB7.out
            clear hb7
            refine hK.out _ _ (fun _ => hS) ?_
            clear hK K
            try simp only [Act.put, List.setIfInBounds_toArray, List.set_cons_zero, List.set_cons_succ]
            refine wpAnyB_only (i := 7) (some 41) (Op.call { callee := Callee.value (Operand.func 69), args := #[Operand.tmp 34, Operand.tmp 40], argTypes := #[24, 22] }) 39 ⟨_, rfl, rfl, rfl, rfl, rfl⟩ (by kernel_rfl) (fun K hK => ?_)
            unfold bareOp
            go_wp2_with (go_at_call 69; refine (invExp_ok P Q G d u 0 true _ HH.out d0 dQ HU.out rfl).mono ?_; rintro e w7 ⟨rfl, hb7⟩)
            replace HB7 := Lib.hid (HB7.out.trans (hb7.mono HB7.out.size))
            replace hS := hSk _ HB7.out
            clear hb7
            refine hK.out _ _ (fun _ => hS) ?_
            clear hK K
            try simp only [Act.put, List.setIfInBounds_toArray, List.set_cons_zero, List.set_cons_succ]
            refine wpAnyB_takeP (i := 8) (some 33) (Op.move (Operand.tmp 41)) 39 (v := ?_) ⟨_, rfl, rfl, rfl, rfl, rfl⟩ (by kernel_rfl) (by kernel_rfl) (by kernel_rfl) (by kernel_rfl) (fun _ _ _ h => h) (fun _ => hS) (fun w' => ?_) ?_
            rotate_left
            · unfold bareOp
              go_simp
              try with_reducible rfl
            simp only [Act.put, List.setIfInBounds_toArray, List.set_cons_zero, List.set_cons_succ]
            refine wpAnyB_takeP (i := 9) (some 42) (Op.extract (Operand.tmp 33) 0) 22 (v := ?_) ⟨_, rfl, rfl, rfl, rfl, rfl⟩ (by kernel_rfl) (by kernel_rfl) (by kernel_rfl) (by kernel_rfl) (fun _ _ _ h => h) (fun _ => hS) (fun w' => ?_) ?_
            rotate_left
            · unfold bareOp
              go_simp
              try with_reducible rfl
            simp only [Act.put, List.setIfInBounds_toArray, List.set_cons_zero, List.set_cons_succ]
            refine wpAnyB_takeP (i := 10) (some 43) (Op.extract (Operand.tmp 33) 1) 30 (v := ?_) ⟨_, rfl, rfl, rfl, rfl, rfl⟩ (by kernel_rfl) (by kernel_rfl) (by kernel_rfl) (by kernel_rfl) (fun _ _ _ h => h) (fun _ => hS) (fun w' => ?_) ?_
            rotate_left
            · unfold bareOp
              go_simp
              try with_reducible rfl
            simp only [Act.put, List.setIfInBounds_toArray, List.set_cons_zero, List.set_cons_succ]
            refine wpAnyB_takeP (i := 11) (some 12) (Op.assign (Operand.tmp 42)) 22 (v := ?_) ⟨_, rfl, rfl, rfl, rfl, rfl⟩ (by kernel_rfl) (by kernel_rfl) (by kernel_rfl) (by kernel_rfl) (fun _ _ _ h => h) (fun _ => hS) (fun w' => ?_) ?_
            rotate_left
            · unfold bareOp
              go_simp
              try with_reducible rfl
            simp only [Act.put, List.setIfInBounds_toArray, List.set_cons_zero, List.set_cons_succ]
            refine wpAnyB_only (i := 12) (some 13) (Op.assign (Operand.tmp 43)) 30 ⟨_, rfl, rfl, rfl, rfl, rfl⟩ (by kernel_rfl) (fun K hK => ?_)
            unfold bareOp
            go_wp2_with fail
            refine hK.out _ _ (fun h => absurd (h.symm.trans (by kernel_rfl : _ = true)) (by decide)) ?_
            clear hK K
            try simp only [Act.put, List.setIfInBounds_toArray, List.set_cons_zero, List.set_cons_succ]
            refine wpAnyB_done (by kernel_rfl) ?_ _
            unfold OnlyN
            obtain ⟨m, hm⟩ : ∃ m, j * u % Q = m := ⟨_, rfl⟩
            have m0 : 0 ≤ m := by rw [← hm]; exact Int.emod_nonneg _ (by omega)
            have mQ : m < Q := by rw [← hm]; exact Int.emod_lt_of_pos _ (by omega)
            obtain ⟨t, ht⟩ : ∃ t, acc * m % Q = t := ⟨_, rfl⟩
            have HM := Lib.hid hm
            have HT := Lib.hid ht
            have hz7 := HB7.out.size
            clear hm ht hS
            gi_wp2_with fail
            replace HB7 := Lib.hid HB7.out.drew
            have hS := hSk _ HB7.out
            refine wpIn_region_stage 8 (fun W' => SBox W' w.heap.size P Q G ∧ W'.cell? ⟨wr.heap.size, 0, none⟩ = some (.int .i64 x) ∧ W'.cell? ⟨wr.heap.size + 1, 0, none⟩ = some (.int .u64 acc)) (by kernel_rfl) (by kernel_rfl) ?_
            refine wpAnyB_take (i := 0) (some 47) (Op.load 24 (Operand.tmp 2)) 24 (v := ?_) ⟨_, rfl, rfl, rfl, rfl, rfl⟩ (by kernel_rfl) (by kernel_rfl) (by kernel_rfl) [7, 8] (by kernel_rfl) (fun _ _ _ h => h) hS (fun w' hSw => ?_) ?_
            rotate_left
            · obtain ⟨⟨b0, b1, b2⟩, b3, b4⟩ := hSw
              unfold bareOp
              go_simp
              try with_reducible rfl
            simp only [Act.put, List.setIfInBounds_toArray, List.set_cons_zero, List.set_cons_succ]
            refine wpAnyB_take (i := 1) (some 48) (Op.load 22 (Operand.tmp 10)) 22 (v := ?_) ⟨_, rfl, rfl, rfl, rfl, rfl⟩ (by kernel_rfl) (by kernel_rfl) (by kernel_rfl) [7, 8] (by kernel_rfl) (fun _ _ _ h => h) hS (fun w' hSw => ?_) ?_
            rotate_left
            · obtain ⟨⟨b0, b1, b2⟩, b3, b4⟩ := hSw
              unfold bareOp
              go_simp
              try with_reducible rfl
            simp only [Act.put, List.setIfInBounds_toArray, List.set_cons_zero, List.set_cons_succ]
            refine wpAnyB_take (i := 2) (some 49) (Op.load 24 (Operand.tmp 2)) 24 (v := ?_) ⟨_, rfl, rfl, rfl, rfl, rfl⟩ (by kernel_rfl) (by kernel_rfl) (by kernel_rfl) [6, 7, 8] (by kernel_rfl) (fun _ _ _ h => h) hS (fun w' hSw => ?_) ?_
            rotate_left
            · obtain ⟨⟨b0, b1, b2⟩, b3, b4⟩ := hSw
              unfold bareOp
              go_simp
              try with_reducible rfl
            simp only [Act.put, List.setIfInBounds_toArray, List.set_cons_zero, List.set_cons_succ]
            refine wpAnyB_takeP (i := 3) (some 50) (Op.move (Operand.tmp 11)) 3 (v := ?_) ⟨_, rfl, rfl, rfl, rfl, rfl⟩ (by kernel_rfl) (by kernel_rfl) (by kernel_rfl) (by kernel_rfl) (fun _ _ _ h => h) (fun _ => hS) (fun w' => ?_) ?_
            rotate_left
            · unfold bareOp
              go_simp
              try with_reducible rfl
            simp only [Act.put, List.setIfInBounds_toArray, List.set_cons_zero, List.set_cons_succ]
            refine wpAnyB_takeP (i := 4) (some 51) (Op.convert 3 22 (Operand.tmp 50)) 22 (v := ?_) ⟨_, rfl, rfl, rfl, rfl, rfl⟩ (by kernel_rfl) (by kernel_rfl) (by kernel_rfl) (by kernel_rfl) (fun _ _ _ h => h) (fun _ => hS) (fun w' => ?_) ?_
            rotate_left
            · unfold bareOp
              go_simp
              try with_reducible rfl
            simp only [Act.put, List.setIfInBounds_toArray, List.set_cons_zero, List.set_cons_succ]
            refine wpAnyB_takeP (i := 5) (some 52) (Op.move (Operand.tmp 12)) 22 (v := ?_) ⟨_, rfl, rfl, rfl, rfl, rfl⟩ (by kernel_rfl) (by kernel_rfl) (by kernel_rfl) (by kernel_rfl) (fun _ _ _ h => h) (fun _ => hS) (fun w' => ?_) ?_
            rotate_left
            · unfold bareOp
              go_simp
              try with_reducible rfl
            simp only [Act.put, List.setIfInBounds_toArray, List.set_cons_zero, List.set_cons_succ]
            refine wpAnyB_only (i := 6) (some 53) (Op.call { callee := Callee.value (Operand.func 71), args := #[Operand.tmp 49, Operand.tmp 51, Operand.tmp 52], argTypes := #[24, 22, 22] }) 22 ⟨_, rfl, rfl, rfl, rfl, rfl⟩ (by kernel_rfl) (fun K hK => ?_)
            unfold bareOp
            go_wp2_with (go_at_call 71; refine (stimes_ok _ HH.out j0 jQ u0 uQ HM.out).mono ?_; rintro e w7 ⟨rfl, hb7⟩)
            replace HB7 := Lib.hid (HB7.out.trans (hb7.mono HB7.out.size))
            replace hS := hSk _ HB7.out
            clear hb7
            refine hK.out _ _ (fun _ => hS) ?_
            clear hK K
            try simp only [Act.put, List.setIfInBounds_toArray, List.set_cons_zero, List.set_cons_succ]
            refine wpAnyB_only (i := 7) (some 54) (Op.call { callee := Callee.value (Operand.func 71), args := #[Operand.tmp 47, Operand.tmp 48, Operand.tmp 53], argTypes := #[24, 22, 22] }) 22 ⟨_, rfl, rfl, rfl, rfl, rfl⟩ (by kernel_rfl) (fun K hK => ?_)
            unfold bareOp
            go_wp2_with (go_at_call 71; refine (stimes_ok _ HH.out a0 aQ m0 mQ HT.out).mono ?_; rintro e w7 ⟨rfl, hb7⟩)
            replace HB7 := Lib.hid (HB7.out.trans (hb7.mono HB7.out.size))
            replace hS := hSk _ HB7.out
            clear hb7
            have hf7 := (HB7.out.frozen (p := ⟨wr.heap.size + 1, 0, none⟩) (by show wr.heap.size + 1 < _; omega)).trans hone.f0
            have hc7 := hS.2.2
            refine hK.out _ _ (fun _ => hS) ?_
            clear hK K
            try simp only [Act.put, List.setIfInBounds_toArray, List.set_cons_zero, List.set_cons_succ]
            refine wpAnyB_only (i := 8) none (Op.store 22 (Operand.tmp 10) (Operand.tmp 54)) 0 ⟨_, rfl, rfl, rfl, rfl, rfl⟩ (by kernel_rfl) (fun K hK => ?_)
            unfold bareOp
            go_wp2_with fail
            refine hK.out _ _ (fun h => absurd (h.symm.trans (by kernel_rfl : _ = true)) (by decide)) ?_
            clear hK K
            try simp only [Act.put, List.setIfInBounds_toArray, List.set_cons_zero, List.set_cons_succ]
            refine wpAnyB_done (by kernel_rfl) ?_ _
            unfold OnlyN
            gi_wp2
            have hsw : s < wr.heap.size := by have := HBW.out.size; omega
            refine ⟨(below_from HB7.out (Nat.le_refl _)).trans ((KeepsOthers.setCell _ _ _).from _), (KpL.below HB7.out (fun b hb => by simp at hb; omega)).trans (fun b hb o => World.cell?_setCell_other _ _ _ _ (fun e => by have := congrArg Addr.block e; simp at hb this; omega)), (HKB.out.trans (KeptBut.of_below HB7.out)).trans (KeptBut.setCell (by simp) _), t, ?_, (HONE.out.keep HB7.out).stored _⟩
            rw [List.map_append, wOneL_append, HACC.out]
            show wOneL Q x acc [j] = some t
            simp only [wOneL]
            rw [HD.out, HI.out]
            show some (acc * (j * u % Q) % Q) = some t
            rw [HM.out, HT.out]
        case done =>
          rintro D ys W hD rfl ⟨hkb, acc, hacc, hone⟩ hK
          rw [upToF_map ids hz x ids.length (Nat.le_refl _), List.take_length] at hacc
          have hB := hb0.trans (hkb.below (n := wr.heap.size) (by omega) (fun b hb => by simp at hb; omega))
          have hws : wr.heap.size + 4 ≤ W.heap.size := by have := hkb.size; omega
          have F_g1 := Lib.hid (F_g.out.keep hB)
          have F_r1 := Lib.hid (F_r.out.keep hB)
          have F_e1 := Lib.hid (F_e.out.keep hB)
          have F_m1 := Lib.hid ((F_m.out.keep hB).cons (D := D) (fun hm => by have := F_m.out.lt hm; omega) (by omega) hK)
          have HB1 := Lib.hid (HBW.out.trans (hB.mono (by have := HBW.out.size; omega)))
          have hrow := F_o.out.keep hB
          have HRW := Lib.hid hrow
          have HWL := Lib.hid (show wk.length ≤ 8 by rw [wAll_len HWK.out, List.length_take]; omega)
          have HSN := Lib.hid (show wAll Q ids (ids.take (k + 1)) = some (wk ++ [acc]) by
            rw [List.take_succ_eq_append_getElem hlt]
            refine wAll_snoc HWK.out ?_
            have e : ids[k] = x := by rw [← HXK.out, List.getElem?_eq_getElem hlt]; rfl
            rw [e]; exact hacc)
          obtain ⟨i0, hi, hz0, hz1, hz2⟩ := info_parts (P := Try.prog) (e := 22) (z := .int .u64 0) (size := 1) (bytes := 8) (by kernel_rfl)
          have hwc := hone.c0
          have HONE := Lib.hid hone
          clear hacc hkb hone hK
          gi_wp2_with (gi_at_builtin; refine wpListIn_append_own _ rfl _ _ 25 rfl (w.heap.size + 3) 22 i0 (.int .u64 0) 1 8 Try.underlying25 hi hz0 hz1 hz2 rfl (by decide) v wk.length (wk.map (Value.int IntKind.u64)) rfl (hrow.alloc _) ⟨W.heap.size, 0, none⟩ 1 1 [.int .u64 acc] rfl rfl (cell_one_new _ _ _) (by simp [Value.oneCell']) (by have := HWL.out; unfold maxLen; omega) (by have := HWL.out; omega) (by simp; omega) ?_; intro v' w9 hown hgr hnil; have HOWN := Lib.hid hown; have HGR := Lib.hid hgr; clear hown hgr hnil)
          have hbr := Below.row HGR.out (fun j hj => (HRW.out.lt j hj).1) (by simp; omega)
          have hw9 := hbr.size
          refine ⟨⟨k + 1, D :: ds, v', wk ++ [acc], ⟨rfl, rfl, rfl, rfl, rfl, rfl, rfl, rfl, rfl, by go_num⟩, rfl, by omega, HSN.out, (F_g1.out.alloc _).keepN hbr (by omega), (F_r1.out.alloc _).keepN hbr (by omega), (F_e1.out.alloc _).keepN hbr (by omega), ?_, (F_m1.out.keep ((Below.refl _ _).alloc (Nat.le_refl _) _)).grown HGR.out ?_, (HB1.out.alloc HB1.out.size _).trans (hbr.mono (by omega))⟩, ?_⟩
          · unfold OwnU; rw [List.length_append, List.map_append]; exact HOWN.out
          · exact OwnU.isCells (HRW.out.keep ((Below.refl _ _).alloc (Nat.le_refl _) _))
          · simp [intOf]; omega
        case stop =>
          rintro D cd pre W hD ⟨k', hk', rfl⟩ ⟨rfl, hno, hkb, hr1, hr2⟩ hK
          rw [upToF_map ids hz x k' hk'] at hno
          have hone : wOne Q ids x = none := by
            rw [wOne, ← List.take_append_drop k' ids, List.filter_append, wOneL_append, hno]; rfl
          have hxm : x ∈ ids := by rw [← HXK.out, List.getElem?_eq_getElem hlt]; exact List.getElem_mem hlt
          have hr2' := HR.out
          rw [wAll_none hxm hone] at hr2'
          obtain ⟨rfl, rfl⟩ := Prod.mk.inj hr2'
          have hB : Below w.heap.size wr W := (hb0.mono (by have := HBW.out.size; omega)).trans (hkb.below (n := w.heap.size) (by have := HBW.out.size; omega) (fun b hb => by have := HBW.out.size; simp at hb; omega))
          have F_m1 : MarksAt W (w.heap.size + 3) (D :: ds) := by
            refine MarksAt.cons ⟨F_m.out.1, fun E hE => ⟨(F_m.out.2 E hE).1, ?_⟩⟩ (fun hm => by have := F_m.out.lt hm; omega) (by omega) hK
            have h1 := F_m.out.lt hE
            have h2 := (F_m.out.2 E hE).1
            exact ((hkb.block E (by omega) (by simp; omega)).trans (hb0.block E h1)).trans (F_m.out.2 E hE).2
          gi_wp2
          refine leaves_marks (n₀ := w.heap.size + 3) (D :: ds) W F_m1 ?_
          intro W' hk hs
          have hnm1 : w.heap.size + 1 ∉ D :: ds := fun hm => by have := (F_m1.2 _ hm).1; omega
          have hnm2 : w.heap.size + 1 + 1 ∉ D :: ds := fun hm => by have := (F_m1.2 _ hm).1; omega
          exact ⟨_, res_two rfl (hr1.kept hk hnm1) (hr2.kept hk hnm2) _ rfl rfl, _, rfl, OwnU.nil _ _, (HBW.out.trans hB).trans (hk.below (by have := hkb.size; omega) (fun b hb => by have := (F_m1.2 b hb).1; omega))⟩
end Go.Proofs.Ytjfaaicbojnpaaa
