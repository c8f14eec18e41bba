/- Deals among the arguments; the reference's Twin; the reference's Merge of nothing; rows of two and three deals. -/
import Derived.Test.YtjfaaicbojnpaaaMrgF
import Derived.Lib.SmallJoins
namespace Go.Proofs.Ytjfaaicbojnpaaa
open Go.RowKit Go.ChangeShapes Go.WideShapes Go.ChangeAt Num
set_option linter.unusedSimpArgs false
set_option linter.unusedVariables false

/-- A deal as an argument has it. -/
structure DlA (W : World) (D : Dl) : Prop where
  h1 : ShI .u64 W D.a D.n D.xs
  u1 : ∀ x, x ∈ D.xs → U64 x
  z1 : D.a = none → D.c = 0
  h2 : ShI .u64 W D.b D.m D.ys
  u2 : ∀ x, x ∈ D.ys → U64 x
  z2 : D.b = none → D.d = 0
theorem open_numsF {P : Program} {H : Type} {enc : TypeId × Value → H} {w : World} {base : Nat} {held : Bool} {t e : TypeId} {q : IntKind} {fuel : Nat} {v0 : Value} {y : DataW H × List MemPlace} (ht : P.underlying t = some (.slice e)) (he : P.underlying e = some (.int q)) (hc1 : P.cellsOf e = 1) (hf : DataW.trod enc P w base (fun _ => true) held fuel t [v0] = some y) :
    ∃ a n c xs, v0 = .slice a n c ∧ ShI q w a n xs ∧ (∀ x, x ∈ xs → (Lit.int q x).wf = true) ∧ (a = none → c = 0) ∧ n ≤ c := by
  rcases open_ints ht he hc1 hf with ⟨hcs, -⟩ | ⟨a, len, cap, zs, hcs, -, hl, hm, hz, -, hcell, hw⟩
  · simp at hcs
    exact ⟨none, 0, 0, [], hcs, .inl ⟨rfl, rfl⟩, (fun q hq => by cases hq), (fun _ => rfl), Nat.le_refl _⟩
  · simp at hcs
    subst hcs
    have hmc : zs.length = cap := by simpa using hz
    by_cases hl0 : len = 0
    · subst hl0
      exact ⟨_, _, _, [], rfl, .inl ⟨rfl, rfl⟩, (fun q hq => by cases hq), (fun h => by cases h), hl⟩
    · obtain ⟨b, off, spot⟩ := a
      have g0 := hcell 0 (by omega)
      have hspot : spot = none := by simpa [Addr.add] using World.cell?_spot g0
      subst hspot
      have hlt : b < w.heap.size := by
        have := World.block_lt_of_cell? w _ g0
        simpa [add_plain'] using this
      refine ⟨_, _, _, zs.take len, rfl, .inr ⟨b, off, rfl, by simp; omega, hlt, fun i hi => ?_⟩, fun z hz => hw z (List.mem_of_mem_take hz), (fun h => by cases h), hl⟩
      have hi' : i < len ∧ i < zs.length := by simp at hi; omega
      have e : (zs.take len).getD i 0 = zs.getD i 0 := by simp [List.getD_eq_getElem?_getD, List.getElem?_take, hi'.1]
      rw [e, ← add_plain']; exact hcell i hi'.2
set_option maxRecDepth 100000 in
theorem open_deal {H : Type} {enc : TypeId × Value → H} {w : World} {base : Nat} {held : Bool} {r : Reach} {b0 : Nat} {v : Value} {d : DataW H} {p : List MemPlace} (hv : Value.okWide Try.prog w r b0 27 v) (h : DataW.Trod enc Try.prog w base (fun _ => true) held 27 v d p) :
    ∃ D : Dl, v = .agg #[.slice D.a D.n D.c, .slice D.b D.m D.d] ∧ DlA w D := by
  obtain ⟨c0, c1, y0, y1, k, rfl, rfl, rfl, hy0, hy1⟩ := Joins.open_agg2 Try.underlying27 (by kernel_rfl) (by kernel_rfl) hv h
  obtain ⟨a, n, c, xs, rfl, h1, h2, h3, -⟩ := open_numsF Try.underlying25 Try.underlying22 (by kernel_rfl) hy0
  obtain ⟨b, m, d, ys, rfl, g1, g2, g3, -⟩ := open_numsF Try.underlying25 Try.underlying22 (by kernel_rfl) hy1
  exact ⟨⟨a, n, c, xs, b, m, d, ys⟩, rfl, ⟨h1, fun x hx => U64.wf (h2 x hx), h3, g1, fun x hx => U64.wf (g2 x hx), g3⟩⟩

set_option maxHeartbeats 2000000 in
theorem rtwin64_gen {a : Option Addr} {n c : Nat} {xs : List Int} (w : World) (h : ShI .u64 w a n xs) (hc : a = none → c = 0) (hn : n ≤ 10000) :
    Calls Try.prog 18 #[.slice a n c] w fun e w' => ∃ v, e = .returned v ∧ OwnU w' w.heap.size v xs ∧ Below w.heap.size w w' := by
  obtain ⟨i0, hi, hz0, hz1, hz2⟩ := info_parts (P := Try.prog) (e := 22) (z := .int .u64 0) (size := 1) (bytes := 8) (by kernel_rfl)
  have HS := Lib.hid h
  cases a with
  | none =>
    have hz : n = 0 ∧ xs = [] := by
      rcases h with ⟨h1, h2⟩ | ⟨s, o, h0, -⟩
      · exact ⟨h1, h2⟩
      · cases h0
    obtain ⟨rfl, rfl⟩ := hz
    obtain rfl : c = 0 := hc rfl
    go_enter Try.func18, Try.ntmps18
    go_wp2_with (at_builtin; refine wpList_append_own_none rfl _ _ 25 rfl w.heap.size 22 i0 1 Try.underlying25 hi _ _ _ rfl (World.ownsRow_nil w _ _ _) rfl ?_)
    go_ret
    exact ⟨_, rfl, OwnU.nil _ _, Below.refl _ _⟩
  | some ad =>
    have hl := h.len
    have HLN := Lib.hid hl
    have HL := Lib.hid (show (xs.map (Value.int IntKind.u64)).length = n * 1 by rw [List.length_map, hl, Nat.mul_one])
    clear h hl
    go_enter Try.func18, Try.ntmps18
    go_wp2_with (at_builtin; refine wpList_append_own _ rfl _ _ 25 rfl w.heap.size 22 i0 (.int .u64 0) 1 8 Try.underlying25 hi hz0 hz1 hz2 rfl (by decide) _ _ _ rfl (World.ownsRow_nil w _ _ _) ad n c (xs.map (Value.int IntKind.u64)) rfl HL.out HS.out.cells (fun u hu => by obtain ⟨x, -, rfl⟩ := List.mem_map.1 hu; rfl) (by unfold maxLen; omega) (by omega) (Nat.le_refl _) ?_; intro v' w1 hown hgr hnil; have hB := Lib.hid (Below.grown (Below.refl w.heap.size w) hgr (Nat.le_refl _) (fun k hk => by cases hk)); have HOWN := Lib.hid hown; clear hown hgr hnil)
    go_ret
    have h9 := HOWN.out
    rw [Nat.zero_add, List.nil_append] at h9
    refine ⟨_, rfl, ?_, hB.out⟩
    unfold OwnU
    rw [← HLN.out]
    exact h9

set_option maxRecDepth 100000 in
set_option maxHeartbeats 4000000 in
theorem rtwin_gen {a b : Option Addr} {n c m d : Nat} {xs ys : List Int} (w : World) (h1 : ShI .u64 w a n xs) (h2 : ShI .u64 w b m ys) (k1 : a = none → c = 0) (k2 : b = none → d = 0) (hn : n ≤ 10000) (hm : m ≤ 10000) :
    Calls Try.prog 14 #[.agg #[.slice a n c, .slice b m d]] w (RetOne w xs ys) := by
  have H1 := Lib.hid h1
  have H2 := Lib.hid h2
  clear h1 h2
  have F_x := Lib.hid (show DealBox ((w.alloc (.cells #[.slice a n c, .slice b m d] 27)).alloc (.cells #[.slice none 0 0, .slice none 0 0] 27)) w.heap.size (.slice a n c) (.slice b m d) from (DealBox.at _ _ _ _ w.heap.size (by simp)).alloc _)
  have F_r := Lib.hid (show DealBox ((w.alloc (.cells #[.slice a n c, .slice b m d] 27)).alloc (.cells #[.slice none 0 0, .slice none 0 0] 27)) (w.heap.size + 1) (.slice none 0 0) (.slice none 0 0) from DealBox.at _ _ _ _ (w.heap.size + 1) (by simp))
  have HBW := Lib.hid (show Below w.heap.size w ((w.alloc (.cells #[.slice a n c, .slice b m d] 27)).alloc (.cells #[.slice none 0 0, .slice none 0 0] 27)) from ((Below.refl _ _).alloc (by simp <;> omega) _).alloc (by simp <;> omega) _)
  go_enter Try.func14, Try.ntmps14
  go_wp2_with fail
  replace F_x := Lib.hid F_x.out.drew
  replace F_r := Lib.hid F_r.out.drew
  replace HBW := Lib.hid HBW.out.drew
  have hS := And.intro F_x.out.c0 F_x.out.c1
  refine wp_region_stage 7 (fun w' => w'.cell? ⟨w.heap.size, 0, none⟩ = some (.slice a n c) ∧ w'.cell? ⟨w.heap.size, 1, none⟩ = some (.slice b m d)) (by kernel_rfl) ?_
  refine wpAnyB_takeP (i := 0) (some 3) (Op.fieldAddr 27 (Operand.tmp 1) 0) 0 (v := ?_) ⟨_, rfl, rfl, rfl, rfl, rfl⟩ (by kernel_rfl) (by kernel_rfl) (by kernel_rfl) (by kernel_rfl) (fun _ _ _ h => h) (fun _ => hS) (fun w' => ?_) ?_
  rotate_left
  · unfold bareOp
    go_simp
    try with_reducible rfl
  simp only [Act.put, List.setIfInBounds_toArray, List.set_cons_zero, List.set_cons_succ]
  refine wpAnyB_take (i := 1) (some 4) (Op.load 25 (Operand.tmp 3)) 25 (v := ?_) ⟨_, rfl, rfl, rfl, rfl, rfl⟩ (by kernel_rfl) (by kernel_rfl) (by kernel_rfl) [2, 5, 6, 7] (by kernel_rfl) (fun _ _ _ h => h) hS (fun w' hSw => ?_) ?_
  rotate_left
  · obtain ⟨b3, b4⟩ := hSw
    unfold bareOp
    go_simp
    try with_reducible rfl
  simp only [Act.put, List.setIfInBounds_toArray, List.set_cons_zero, List.set_cons_succ]
  refine wpAnyB_takeP (i := 3) (some 6) (Op.fieldAddr 27 (Operand.tmp 1) 1) 0 (v := ?_) ⟨_, rfl, rfl, rfl, rfl, rfl⟩ (by kernel_rfl) (by kernel_rfl) (by kernel_rfl) (by kernel_rfl) (fun _ _ _ h => h) (fun _ => hS) (fun w' => ?_) ?_
  rotate_left
  · unfold bareOp
    go_simp
    try with_reducible rfl
  simp only [Act.put, List.setIfInBounds_toArray, List.set_cons_zero, List.set_cons_succ]
  refine wpAnyB_take (i := 4) (some 7) (Op.load 25 (Operand.tmp 6)) 25 (v := ?_) ⟨_, rfl, rfl, rfl, rfl, rfl⟩ (by kernel_rfl) (by kernel_rfl) (by kernel_rfl) [5, 6, 7] (by kernel_rfl) (fun _ _ _ h => h) hS (fun w' hSw => ?_) ?_
  rotate_left
  · obtain ⟨b3, b4⟩ := hSw
    unfold bareOp
    go_simp
    try with_reducible rfl
  simp only [Act.put, List.setIfInBounds_toArray, List.set_cons_zero, List.set_cons_succ]
  refine wpAnyB_only (i := 2) (some 5) (Op.call { callee := Callee.value (Operand.func 18), args := #[Operand.tmp 4], argTypes := #[25] }) 25 ⟨_, rfl, rfl, rfl, rfl, rfl⟩ (by kernel_rfl) (fun K hK => ?_)
  unfold bareOp
  go_wp2_with fail
  have hz1 := F_r.out.lt
  refine (rtwin64_gen _ (H1.out.keep HBW.out) k1 (by omega)).mono ?_
  rintro e w8 ⟨v1, rfl, ho1, hb1⟩
  obtain ⟨t1, u1c, rfl⟩ := ho1.sl
  replace F_x := Lib.hid (F_x.out.keep hb1)
  replace F_r := Lib.hid (F_r.out.keep hb1)
  replace HBW := Lib.hid (HBW.out.trans (hb1.mono HBW.out.size))
  replace hS := And.intro F_x.out.c0 F_x.out.c1
  have F_1 := Lib.hid (ho1.mono (n₀ := w.heap.size + 2) (Nat.succ_le_of_lt hz1))
  clear hb1 ho1 hz1
  refine hK.out _ _ (fun _ => hS) ?_
  clear hK K
  try simp only [Act.put, List.setIfInBounds_toArray, List.set_cons_zero, List.set_cons_succ]
  refine wpAnyB_only (i := 5) (some 8) (Op.call { callee := Callee.value (Operand.func 18), args := #[Operand.tmp 7], argTypes := #[25] }) 25 ⟨_, rfl, rfl, rfl, rfl, rfl⟩ (by kernel_rfl) (fun K hK => ?_)
  unfold bareOp
  go_wp2_with fail
  have hz2 := F_r.out.lt
  refine (rtwin64_gen _ (H2.out.keep HBW.out) k2 (by omega)).mono ?_
  rintro e w8 ⟨v2, rfl, ho2, hb2⟩
  obtain ⟨t2, u2c, rfl⟩ := ho2.sl
  replace F_x := Lib.hid (F_x.out.keep hb2)
  replace F_r := Lib.hid (F_r.out.keep hb2)
  replace F_1 := Lib.hid (F_1.out.keep hb2)
  replace HBW := Lib.hid (HBW.out.trans (hb2.mono HBW.out.size))
  replace hS := And.intro F_x.out.c0 F_x.out.c1
  have F_2 := Lib.hid (ho2.mono (n₀ := w.heap.size + 2) (Nat.succ_le_of_lt hz2))
  clear hb2 ho2 hz2
  refine hK.out _ _ (fun _ => hS) ?_
  clear hK K
  try simp only [Act.put, List.setIfInBounds_toArray, List.set_cons_zero, List.set_cons_succ]
  refine wpAnyB_takeP (i := 6) (some 9) (Op.build 27 #[(0, Operand.tmp 5), (1, Operand.tmp 8)]) 27 (v := ?_) ⟨_, rfl, rfl, rfl, rfl, rfl⟩ (by kernel_rfl) (by kernel_rfl) (by kernel_rfl) (by kernel_rfl) (fun _ _ _ h => h) (fun _ => hS) (fun w' => ?_) ?_
  rotate_left
  · unfold bareOp
    go_simp
    try with_reducible rfl
  simp only [Act.put, List.setIfInBounds_toArray, List.set_cons_zero, List.set_cons_succ]
  refine wpAnyB_only (i := 7) none (Op.store 27 (Operand.tmp 2) (Operand.tmp 9)) 0 ⟨_, rfl, rfl, rfl, rfl, rfl⟩ (by kernel_rfl) (fun K hK => ?_)
  unfold bareOp
  obtain ⟨za, zb, zc, zd, -⟩ := id F_r.out
  go_wp2_with fail
  refine hK.out _ _ (fun h => absurd (h.symm.trans (by kernel_rfl : _ = true)) (by decide)) ?_
  clear hK K
  try simp only [Act.put, List.setIfInBounds_toArray, List.set_cons_zero, List.set_cons_succ]
  refine wpAnyB_done (by kernel_rfl) ?_ _
  clear hS
  go_wp2_with fail
  exact bodyPost_ret (res_deal1 rfl (F_r.out.stored _ _) _ rfl) rfl ⟨_, _, rfl, ((F_1.out.far (b := w.heap.size + 1) (o := 0) (Nat.lt_succ_self _) _).far (b := w.heap.size + 1) (o := 1) (Nat.lt_succ_self _) _).mono (by omega), ((F_2.out.far (b := w.heap.size + 1) (o := 0) (Nat.lt_succ_self _) _).far (b := w.heap.size + 1) (o := 1) (Nat.lt_succ_self _) _).mono (by omega), (HBW.out.setCell (p := ⟨w.heap.size + 1, 0, none⟩) (by show w.heap.size ≤ w.heap.size + 1; omega) _).setCell (p := ⟨w.heap.size + 1, 1, none⟩) (by show w.heap.size ≤ w.heap.size + 1; omega) _⟩

set_option maxRecDepth 100000 in
set_option maxHeartbeats 8000000 in
theorem rmergeable_nil {P Q G : Int} (w : World) :
    Calls Try.prog 55 #[.agg #[.int .u64 P, .int .u64 Q, .int .u64 G], .slice none 0 0] w fun e w' => e = .returned (.bool false) ∧ Below w.heap.size w w' := by
  have F_g := Lib.hid (show Boxed (w.alloc (.cells #[.int .u64 P, .int .u64 Q, .int .u64 G] 24)) w.heap.size P Q G from Boxed.at _ P Q G _ w.heap.size (by simp))
  have HBW := Lib.hid (show Below w.heap.size w (w.alloc (.cells #[.int .u64 P, .int .u64 Q, .int .u64 G] 24)) from (Below.refl _ _).alloc (by simp <;> omega) _)
  go_enter Try.func55, Try.ntmps55
  go_wp2_with fail
  go_loopw [5, 6] (fun c5 c6 wr => c5 = .int .i64 0 ∧ Hid (Boxed wr w.heap.size P Q G) ∧ Hid (Below w.heap.size w wr)) (fun c5 _ _ => 0)
  case atStart => exact ⟨rfl, F_g.out, HBW.out⟩
  case round =>
    clear F_g HBW
    obtain ⟨rfl, F_g, HBW⟩ := hrel
    go_wp2_with fail
    go_ret
    exact ⟨rfl, HBW.out⟩

set_option maxRecDepth 100000 in
set_option maxHeartbeats 8000000 in
theorem rmerge_nil {P Q G er : Int} {ps ss : List Int} (w : World) (hP : 0 ≤ P) (hQ : 0 ≤ Q) (hG : 0 ≤ G) (hv : mergeS P Q G [] = (er, ps, ss)) :
    Calls Try.prog 16 #[.agg #[.int .u64 P, .int .u64 Q, .int .u64 G], .slice none 0 0] w (RetDeal w er ps ss) := by
  by_cases hH : Has P Q G
  case neg =>
    obtain ⟨rfl, hps0⟩ := Prod.mk.inj (show (300, [], []) = (er, ps, ss) by rw [← hv]; simp [mergeS, hH])
    obtain ⟨rfl, rfl⟩ := Prod.mk.inj hps0
    have HAK := Lib.hid (askS_no (es := []) (ns := []) hH)
    clear hv hH hps0
    have F_g := Lib.hid (show Boxed ((w.alloc (.cells #[.int .u64 P, .int .u64 Q, .int .u64 G] 24)).alloc (.cells #[.slice none 0 0, .slice none 0 0] 27)) w.heap.size P Q G from (Boxed.at _ P Q G _ w.heap.size (by simp)).alloc _)
    have F_b := Lib.hid (show DealBox ((w.alloc (.cells #[.int .u64 P, .int .u64 Q, .int .u64 G] 24)).alloc (.cells #[.slice none 0 0, .slice none 0 0] 27)) (w.heap.size + 1) (.slice none 0 0) (.slice none 0 0) from DealBox.at _ _ _ _ (w.heap.size + 1) (by simp))
    have HBW := Lib.hid (show Below w.heap.size w ((w.alloc (.cells #[.int .u64 P, .int .u64 Q, .int .u64 G] 24)).alloc (.cells #[.slice none 0 0, .slice none 0 0] 27)) from ((Below.refl _ _).alloc (by simp <;> omega) _).alloc (by simp <;> omega) _)
    go_enter Try.func16, Try.ntmps16
    obtain ⟨g0, g1', g2', -⟩ := id F_g.out
    obtain ⟨y0, y1, y2, y3, -⟩ := id F_b.out
    go_wp2_with fail
    clear g0 g1' g2' y0 y1 y2 y3
    refine (rAsked_any _ hP hQ hG (ShL.nil _) (ShL.nil _) (by simp) (by simp) HAK.out).mono ?_
    rintro e w1 ⟨rfl, hb1⟩
    replace F_g := Lib.hid (F_g.out.keep hb1)
    replace F_b := Lib.hid (F_b.out.keep hb1)
    replace HBW := Lib.hid (HBW.out.trans (hb1.mono HBW.out.size))
    clear hb1
    obtain ⟨g0, g1', g2', -⟩ := id F_g.out
    obtain ⟨y0, y1, y2, y3, -⟩ := id F_b.out
    go_wp2_with fail
    clear g0 g1' g2' y0 y1 y2 y3
    exact bodyPost_ret (res_deal rfl (F_b.out.stored (.slice none 0 0) (.slice none 0 0)) _ rfl rfl rfl rfl) rfl ⟨_, _, rfl, OwnU.nil _ _, OwnU.nil _ _, (HBW.out.setCell (p := ⟨w.heap.size + 1, 0, none⟩) (by show w.heap.size ≤ w.heap.size + 1; omega) _).setCell (p := ⟨w.heap.size + 1, 1, none⟩) (by show w.heap.size ≤ w.heap.size + 1; omega) _⟩
  case pos =>
    obtain ⟨rfl, hps0⟩ := Prod.mk.inj (show (2, [], []) = (er, ps, ss) by rw [← hv]; simp [mergeS, hH])
    obtain ⟨rfl, rfl⟩ := Prod.mk.inj hps0
    have HAK := Lib.hid (show askS P Q G [] [] = 0 from askS_ok hH (by simp) (by simp))
    clear hv hH hps0
    have F_g := Lib.hid (show Boxed ((w.alloc (.cells #[.int .u64 P, .int .u64 Q, .int .u64 G] 24)).alloc (.cells #[.slice none 0 0, .slice none 0 0] 27)) w.heap.size P Q G from (Boxed.at _ P Q G _ w.heap.size (by simp)).alloc _)
    have F_b := Lib.hid (show DealBox ((w.alloc (.cells #[.int .u64 P, .int .u64 Q, .int .u64 G] 24)).alloc (.cells #[.slice none 0 0, .slice none 0 0] 27)) (w.heap.size + 1) (.slice none 0 0) (.slice none 0 0) from DealBox.at _ _ _ _ (w.heap.size + 1) (by simp))
    have HBW := Lib.hid (show Below w.heap.size w ((w.alloc (.cells #[.int .u64 P, .int .u64 Q, .int .u64 G] 24)).alloc (.cells #[.slice none 0 0, .slice none 0 0] 27)) from ((Below.refl _ _).alloc (by simp <;> omega) _).alloc (by simp <;> omega) _)
    go_enter Try.func16, Try.ntmps16
    obtain ⟨g0, g1', g2', -⟩ := id F_g.out
    obtain ⟨y0, y1, y2, y3, -⟩ := id F_b.out
    go_wp2_with fail
    clear g0 g1' g2' y0 y1 y2 y3
    refine (rAsked_any _ hP hQ hG (ShL.nil _) (ShL.nil _) (by simp) (by simp) HAK.out).mono ?_
    rintro e w1 ⟨rfl, hb1⟩
    replace F_g := Lib.hid (F_g.out.keep hb1)
    replace F_b := Lib.hid (F_b.out.keep hb1)
    replace HBW := Lib.hid (HBW.out.trans (hb1.mono HBW.out.size))
    clear hb1
    obtain ⟨g0, g1', g2', -⟩ := id F_g.out
    obtain ⟨y0, y1, y2, y3, -⟩ := id F_b.out
    go_wp2_with fail
    clear g0 g1' g2' y0 y1 y2 y3
    refine (rmergeable_nil _).mono ?_
    rintro e w2 ⟨rfl, hb2⟩
    replace F_g := Lib.hid (F_g.out.keep hb2)
    replace F_b := Lib.hid (F_b.out.keep hb2)
    replace HBW := Lib.hid (HBW.out.trans (hb2.mono HBW.out.size))
    clear hb2
    obtain ⟨g0, g1', g2', -⟩ := id F_g.out
    obtain ⟨y0, y1, y2, y3, -⟩ := id F_b.out
    go_wp2_with fail
    clear g0 g1' g2' y0 y1 y2 y3
    exact bodyPost_ret (res_deal rfl (F_b.out.stored (.slice none 0 0) (.slice none 0 0)) _ rfl rfl rfl rfl) rfl ⟨_, _, rfl, OwnU.nil _ _, OwnU.nil _ _, (HBW.out.setCell (p := ⟨w.heap.size + 1, 0, none⟩) (by show w.heap.size ≤ w.heap.size + 1; omega) _).setCell (p := ⟨w.heap.size + 1, 1, none⟩) (by show w.heap.size ≤ w.heap.size + 1; omega) _⟩

theorem mrgP_le (P : Int) : ∀ (t : List Dl) (os : List Int), (mrgP P os t).length ≤ os.length
  | [], os => Nat.le_refl _
  | D :: t, os => Nat.le_trans (mrgP_le P t _) (by rw [List.length_zipWith]; exact Nat.min_le_left _ _)
theorem mrgQ_le (P : Int) : ∀ (t : List Dl) (os : List Int), (mrgQ P os t).length ≤ os.length
  | [], os => Nat.le_refl _
  | D :: t, os => Nat.le_trans (mrgQ_le P t _) (by rw [List.length_zipWith]; exact Nat.min_le_left _ _)
theorem mergeS_len {P Q G er : Int} {l : List Dl} {ps ss : List Int} (h : mergeS P Q G l = (er, ps, ss)) : ps.length ≤ 8 ∧ ss.length ≤ 8 := by
  unfold mergeS at h
  split at h
  · cases l with
    | nil =>
      obtain ⟨-, h⟩ := Prod.mk.inj h
      obtain ⟨rfl, rfl⟩ := Prod.mk.inj h
      simp
    | cons E t =>
      simp only at h
      split at h
      · rename_i hb
        obtain ⟨-, h⟩ := Prod.mk.inj h
        obtain ⟨rfl, rfl⟩ := Prod.mk.inj h
        rw [Bool.and_eq_true] at hb
        have hE := fits_true (List.all_eq_true.1 hb.2 E (by simp))
        exact ⟨Nat.le_trans (mrgP_le P t _) (belowS_true hE.1).2.1, Nat.le_trans (mrgQ_le Q t _) (belowS_true hE.2.1).2.1⟩
      · obtain ⟨-, h⟩ := Prod.mk.inj h
        obtain ⟨rfl, rfl⟩ := Prod.mk.inj h
        simp
  · obtain ⟨-, h⟩ := Prod.mk.inj h
    obtain ⟨rfl, rfl⟩ := Prod.mk.inj h
    simp
theorem DRow.two {W : World} {A B : Dl} (T : TypeId) (hA : DlIn W A) (hB : DlIn W B) : DRow (W.alloc (.cells #[.slice A.a A.n A.c, .slice A.b A.m A.d, .slice B.a B.n B.c, .slice B.b B.m B.d] T)) W.heap.size 0 [A, B] := by
  refine ⟨by simp, fun i hi => ?_, fun D hD => ?_⟩
  · match i, hi with
    | 0, _ => exact ⟨by rw [World.cell?_alloc_new]; rfl, by rw [World.cell?_alloc_new]; rfl⟩
    | 1, _ => exact ⟨by rw [World.cell?_alloc_new]; rfl, by rw [World.cell?_alloc_new]; rfl⟩
  · simp at hD
    rcases hD with rfl | rfl
    · exact hA.keep ((Below.refl _ _).alloc (Nat.le_refl _) _)
    · exact hB.keep ((Below.refl _ _).alloc (Nat.le_refl _) _)
theorem DRow.three {W : World} {A B C : Dl} (T : TypeId) (hA : DlIn W A) (hB : DlIn W B) (hC : DlIn W C) : DRow (W.alloc (.cells #[.slice A.a A.n A.c, .slice A.b A.m A.d, .slice B.a B.n B.c, .slice B.b B.m B.d, .slice C.a C.n C.c, .slice C.b C.m C.d] T)) W.heap.size 0 [A, B, C] := by
  refine ⟨by simp, fun i hi => ?_, fun D hD => ?_⟩
  · match i, hi with
    | 0, _ => exact ⟨by rw [World.cell?_alloc_new]; rfl, by rw [World.cell?_alloc_new]; rfl⟩
    | 1, _ => exact ⟨by rw [World.cell?_alloc_new]; rfl, by rw [World.cell?_alloc_new]; rfl⟩
    | 2, _ => exact ⟨by rw [World.cell?_alloc_new]; rfl, by rw [World.cell?_alloc_new]; rfl⟩
  · simp at hD
    rcases hD with rfl | rfl | rfl
    · exact hA.keep ((Below.refl _ _).alloc (Nat.le_refl _) _)
    · exact hB.keep ((Below.refl _ _).alloc (Nat.le_refl _) _)
    · exact hC.keep ((Below.refl _ _).alloc (Nat.le_refl _) _)
end Go.Proofs.Ytjfaaicbojnpaaa
