/- The reference's TwinVote, TwinReveal. -/
import Derived.Test.YtlbldpkgnonbpaaGreatDoorQs1
set_option linter.unusedSimpArgs false
set_option linter.unusedVariables false
set_option maxRecDepth 100000
namespace Go.Proofs.YtlbldpkgnonbpaaGreatDoor
open Go Go.RowKit Num Sha
theorem wpL_appS {w : World} {ops : Array Oper} {rest : List Oper} {o : Oper} {a : Act} {Q : Exit → Act → World → Prop} (hgd : o.guard = none) (s x : Operand) (ho : o.op = .call { callee := .builtin .append, args := #[s, x], argTypes := #[27, 27] })
 (base : Nat) (p : Option Addr) (m c : Nat) (l : List (Int × Int)) (hs : a.eval s = .slice none 0 0) (hx : a.eval x = .slice p m c) (hl : ShS w p m l) (hc : p = none → c = 0) (hn : m ≤ 10000) (hb : base ≤ w.heap.size)
 (h : ∀ v' w', w'.ownsRow base 75 2 v' m (flatS l) → Below base w w' → w.heap.size ≤ w'.heap.size → wpList Tryz.prog ops Q rest (a.put o.dst v') w') : wpList Tryz.prog ops Q (o :: rest) a w := by
 obtain ⟨i0, hi, hz0, hz1, hz2⟩ := info_parts (P := Tryz.prog) (e := 75) (z := (.agg #[υ 0, υ 0])) (size := 2) (bytes := 16) (by kernel_rfl)
 have hown : w.ownsRow base 75 2 (.slice none 0 0) 0 [] := World.ownsRow_nil _ _ _ _
 cases p with
 | none =>
  have hz : m = 0 ∧ l = [] := by
   rcases hl with h | ⟨s, o, h0, -⟩
   · exact h
   · cases h0
  obtain ⟨rfl, rfl⟩ := hz
  obtain rfl := hc rfl
  refine wpList_append_own_none hgd s x 27 ho base 75 i0 2 Tryz.underlying27 hi _ 0 [] hs hown hx ?_
  exact h _ w hown (Below.refl _ _) (Nat.le_refl _)
 | some ad =>
  refine wpList_append_own _ hgd s x 27 ho base 75 i0 (.agg #[υ 0, υ 0]) 2 16 Tryz.underlying27 hi hz0 hz1 hz2 rfl (by decide) _ 0 [] hs hown ad m c (flatS l) hx (by rw [flatS_length, ← hl.len]) hl.cells (fun u hu => flatS_one _ u hu) (by unfold maxLen; omega) (by omega) hb ?_
  intro v' w' h1 h2 _
  exact h v' w' (by simpa using h1) (Below.rowT h2 (fun k hk => (hown.lt k hk).1) hb) h2.size
theorem wpL_appB {w : World} {ops : Array Oper} {rest : List Oper} {o : Oper} {a : Act} {Q : Exit → Act → World → Prop} (hgd : o.guard = none) (s x : Operand) (ho : o.op = .call { callee := .builtin .append, args := #[s, x], argTypes := #[28, 28] })
 (base : Nat) (p : Option Addr) (m c : Nat) (l : List Bt) (hs : a.eval s = .slice none 0 0) (hx : a.eval x = .slice p m c) (hl : ShB w p m l) (hc : p = none → c = 0) (hn : m ≤ 10000) (hb : base ≤ w.heap.size)
 (h : ∀ v' w', w'.ownsRow base 31 8 v' m (flatB l) → Below base w w' → w.heap.size ≤ w'.heap.size → wpList Tryz.prog ops Q rest (a.put o.dst v') w') : wpList Tryz.prog ops Q (o :: rest) a w := by
 obtain ⟨i0, hi, hz0, hz1, hz2⟩ := info_parts (P := Tryz.prog) (e := 31) (z := (.agg #[υ 0, υ 0, υ 0, υ 0, υ 0, υ 0, υ 0, υ 0])) (size := 8) (bytes := 64) (by kernel_rfl)
 have hown : w.ownsRow base 31 8 (.slice none 0 0) 0 [] := World.ownsRow_nil _ _ _ _
 cases p with
 | none =>
  have hz : m = 0 ∧ l = [] := by
   rcases hl with h | ⟨s, o, h0, -⟩
   · exact h
   · cases h0
  obtain ⟨rfl, rfl⟩ := hz
  obtain rfl := hc rfl
  refine wpList_append_own_none hgd s x 28 ho base 31 i0 8 Tryz.underlying28 hi _ 0 [] hs hown hx ?_
  exact h _ w hown (Below.refl _ _) (Nat.le_refl _)
 | some ad =>
  refine wpList_append_own _ hgd s x 28 ho base 31 i0 (.agg #[υ 0, υ 0, υ 0, υ 0, υ 0, υ 0, υ 0, υ 0]) 8 64 Tryz.underlying28 hi hz0 hz1 hz2 rfl (by decide) _ 0 [] hs hown ad m c (flatB l) hx (by rw [flatB_length, ← hl.len]) hl.cells (fun u hu => flatB_one _ u hu) (by unfold maxLen; omega) (by omega) hb ?_
  intro v' w' h1 h2 _
  exact h v' w' (by simpa using h1) (Below.rowT h2 (fun k hk => (hown.lt k hk).1) hb) h2.size
theorem wp_appI {w : World} {o : Oper} {a : Act} {K : Act → World → Prop} {Q : Exit → Act → World → Prop} (s x : Operand) (ho : o.op = .call { callee := .builtin .append, args := #[s, x], argTypes := #[25, 25] })
 (base : Nat) (p : Option Addr) (m c : Nat) (l : List Int) (hs : a.eval s = .slice none 0 0) (hx : a.eval x = .slice p m c) (hl : ShI .i64 w p m l) (hc : p = none → c = 0) (hn : m ≤ 10000) (hb : base ≤ w.heap.size)
 (h : ∀ v' w', w'.ownsRow base 3 1 v' m (l.map (Value.int .i64)) → Below base w w' → K (a.put o.dst v') w') : o.wp Tryz.prog a w K Q := by
 obtain ⟨i0, hi, hz0, hz1, hz2⟩ := info_parts (P := Tryz.prog) (e := 3) (z := .int .i64 0) (size := 1) (bytes := 8) (by kernel_rfl)
 have hown : w.ownsRow base 3 1 (.slice none 0 0) 0 [] := World.ownsRow_nil _ _ _ _
 have key : ∃ v' w', (Builtin.append_ #[25, 25] o.type #[.slice none 0 0, .slice p m c]).run Tryz.prog w = .ok v' w' ∧ w'.ownsRow base 3 1 v' m (l.map (Value.int .i64)) ∧ Below base w w' := by
  have hll := hl.len
  cases p with
  | some ad =>
   obtain ⟨v', w', hr, h1, h2, -⟩ := run_append_own (P := Tryz.prog) w base 25 o.type 3 i0 (.int .i64 0) 1 8 Tryz.underlying25 hi hz0 hz1 hz2 rfl (by decide) _ 0 [] hown ad m c (l.map (Value.int .i64)) (by rw [List.length_map, ← hll, Nat.mul_one]) hl.cells (fun u hu => by obtain ⟨x, -, rfl⟩ := List.mem_map.1 hu; rfl) (by unfold maxLen; omega) (by omega) hb
   exact ⟨v', w', hr, by simpa using h1, Below.rowT h2 (fun k hk => (hown.lt k hk).1) hb⟩
  | none =>
   obtain ⟨rfl, rfl⟩ : m = 0 ∧ l = [] := by
    rcases hl with h | ⟨s, o, h, -⟩
    · exact h
    · cases h
   obtain rfl := hc rfl
   refine ⟨.slice none 0 0, w, ?_, by simpa using hown, Below.refl _ _⟩
   simp [Builtin.append_, run_underlying Tryz.underlying25, sizeOf, typeInfo, hi, hz1, Builtin.lenOf, storeCells, Builtin.firstCells]
 obtain ⟨v', w', hr, h2, h3⟩ := key
 unfold Oper.wp execOp
 simp only [ho, resolve, invoke, builtin, Sem.run_bind, Sem.run_pure, Result.andThen_ok, List.map_toArray, List.map_cons, List.map_nil, hs, hx, hr]
 exact h v' w' h2 h3
theorem wp_appU {w : World} {o : Oper} {a : Act} {K : Act → World → Prop} {Q : Exit → Act → World → Prop} (s x : Operand) (ho : o.op = .call { callee := .builtin .append, args := #[s, x], argTypes := #[34, 34] })
 (base : Nat) (p : Option Addr) (m c : Nat) (l : List Int) (hs : a.eval s = .slice none 0 0) (hx : a.eval x = .slice p m c) (hl : ShI .u64 w p m l) (hc : p = none → c = 0) (hn : m ≤ 10000) (hb : base ≤ w.heap.size)
 (h : ∀ v' w', w'.ownsRow base 22 1 v' m (l.map (Value.int .u64)) → Below base w w' → K (a.put o.dst v') w') : o.wp Tryz.prog a w K Q := by
 obtain ⟨i0, hi, hz0, hz1, hz2⟩ := info_parts (P := Tryz.prog) (e := 22) (z := υ 0) (size := 1) (bytes := 8) (by kernel_rfl)
 have hown : w.ownsRow base 22 1 (.slice none 0 0) 0 [] := World.ownsRow_nil _ _ _ _
 have key : ∃ v' w', (Builtin.append_ #[34, 34] o.type #[.slice none 0 0, .slice p m c]).run Tryz.prog w = .ok v' w' ∧ w'.ownsRow base 22 1 v' m (l.map (Value.int .u64)) ∧ Below base w w' := by
  have hll := hl.len
  cases p with
  | some ad =>
   obtain ⟨v', w', hr, h1, h2, -⟩ := run_append_own (P := Tryz.prog) w base 34 o.type 22 i0 (υ 0) 1 8 Tryz.underlying34 hi hz0 hz1 hz2 rfl (by decide) _ 0 [] hown ad m c (l.map (Value.int .u64)) (by rw [List.length_map, ← hll, Nat.mul_one]) hl.cells (fun u hu => by obtain ⟨x, -, rfl⟩ := List.mem_map.1 hu; rfl) (by unfold maxLen; omega) (by omega) hb
   exact ⟨v', w', hr, by simpa using h1, Below.rowT h2 (fun k hk => (hown.lt k hk).1) hb⟩
  | none =>
   obtain ⟨rfl, rfl⟩ : m = 0 ∧ l = [] := by
    rcases hl with h | ⟨s, o, h, -⟩
    · exact h
    · cases h
   obtain rfl := hc rfl
   refine ⟨.slice none 0 0, w, ?_, by simpa using hown, Below.refl _ _⟩
   simp [Builtin.append_, run_underlying Tryz.underlying34, sizeOf, typeInfo, hi, hz1, Builtin.lenOf, storeCells, Builtin.firstCells]
 obtain ⟨v', w', hr, h2, h3⟩ := key
 unfold Oper.wp execOp
 simp only [ho, resolve, invoke, builtin, Sem.run_bind, Sem.run_pure, Result.andThen_ok, List.map_toArray, List.map_cons, List.map_nil, hs, hx, hr]
 exact h v' w' h2 h3
set_option maxHeartbeats 16000000 in
theorem rTwinVote_any {V : Vt} (w : World) (hV : VtIn w V) (hn : V.n ≤ 10000) (hm : V.m ≤ 10000) :
 Calls Tryz.prog 44 #[V.v] w fun e w' => ∃ U : Vt, e = .returned U.v ∧ VtIn w' U ∧ SameV U V ∧ highB U.a U.n w.heap.size ∧ highB U.b U.m w.heap.size ∧ Below w.heap.size w w' := by
 have HV := Lh hV
 clear hV
 unfold Vt.v
 obtain ⟨F_v, F_o, HBW⟩ := bx2 w V.cl 33 [.slice none 0 0, .slice none 0 0, .bool false, υ 0, υ 0, υ 0, υ 0, υ 0, υ 0, υ 0, υ 0] 33
 have v0 := F_v.o.c 0 _ rfl
 have f0 := F_v.o.f 0
 go_enter Tryz.func44, Tryz.ntmps44
 go_wp2_with (first
  | (at_builtin
     refine wpL_appS rfl _ (.tmp 4) rfl (w.heap.size + 2) V.a V.n V.c V.bs rfl rfl (HV.o.keep HBW.o).h1 HV.o.k1 hn (by simp) ?_
     intro v5 w5 ho5 hb5 hz5
     obtain ⟨a5, c5, rfl, -, hk5⟩ := ShS.of_owned2 ho5
     have HK5 := Lh hk5
     have F_v5 := Lh (F_v.o.keepN hb5 (by omega))
     have F_o5 := Lh (F_o.o.keepN hb5 (by omega))
     have HBW5 := Lh (HBW.o.trans (hb5.mono (by omega)))
     have HZ5 := Lh (show w.heap.size + 2 ≤ (w5.setCell ⟨w.heap.size, 0, none⟩ (.slice a5 V.n c5)).heap.size by rw [World.size_setCell]; simp at hz5; omega)
     have F_vs := Lh (F_v5.o.set (m := [.slice a5 V.n c5, .slice V.b V.m V.d, .bool V.one, υ V.z.r0, υ V.z.r1, υ V.z.s0, υ V.z.s1, υ V.z.c0, υ V.z.c1, υ V.z.z0, υ V.z.z1]) 0 (.slice a5 V.n c5) (by simp) rfl)
     have F_os := Lh (F_o5.o.far ⟨w.heap.size, 0, none⟩ (.slice a5 V.n c5) (by simp))
     have HOs := Lh (own_far ho5 ⟨w.heap.size, 0, none⟩ (.slice a5 V.n c5) (by simp))
     have HVs := Lh ((HV.o.keep HBW5.o).slc (p := ⟨w.heap.size, 0, none⟩) (u := .slice a5 V.n c5) (F_v5.o.c 0 _ rfl))
     have HBs := Lh (show Below w.heap.size w (w5.setCell ⟨w.heap.size, 0, none⟩ (.slice a5 V.n c5)) from HBW5.o.setCell (by simp) _)
     clear ho5 hk5 hb5 hz5 v0 f0
     have v0 := F_v5.o.c 0 _ rfl
     have f0 := F_v5.o.f 0
     have v1 := F_vs.o.c 1 _ rfl)
  | (at_builtin
     refine wpL_appB rfl _ (.tmp 8) rfl _ V.b V.m V.d V.ps rfl rfl HVs.o.h2 HVs.o.k2 hm (Nat.le_refl _) ?_
     intro v6 w6 ho6 hb6 hz6
     obtain ⟨a6, c6, rfl, -, hk6⟩ := ShB.of_owned2 ho6
     have HK6 := Lh hk6
     have F_v6 := Lh (F_vs.o.keep hb6)
     have F_o6 := Lh (F_os.o.keep hb6)
     have HO6 := Lh (owns_below2 HOs.o hb6)
     have HP6 := Lh (owns_mono ho6 HZ5.o)
     have HBW6 := Lh (HBs.o.trans (hb6.mono HBs.o.size))
     clear ho6 hk6 hb6 hz6 v0 f0 v1
     have v1 := F_v6.o.c 1 _ rfl
     have f1 := F_v6.o.f 1
     have F_x := Lh (F_v6.o.set (m := [.slice a5 V.n c5, .slice a6 V.m c6, .bool V.one, υ V.z.r0, υ V.z.r1, υ V.z.s0, υ V.z.s1, υ V.z.c0, υ V.z.c1, υ V.z.z0, υ V.z.z1]) 1 (.slice a6 V.m c6) (by simp) rfl)
     have F_p := Lh (F_o6.o.far ⟨w.heap.size, 1, none⟩ (.slice a6 V.m c6) (by simp)))
  | (refine wpL_loadCl rfl 33 (.tmp 1) w.heap.size _ rfl rfl _ Tryz.underlying33 rfl (by kernel_rfl) F_x.o ?_)
  | (refine wpL_storeCl rfl 33 (.tmp 2) (.tmp 11) (w.heap.size + 1) 0 _ [.slice a5 V.n c5, .slice a6 V.m c6, .bool V.one, υ V.z.r0, υ V.z.r1, υ V.z.s0, υ V.z.s1, υ V.z.c0, υ V.z.c1, υ V.z.z0, υ V.z.z1] [.slice a5 V.n c5, .slice a6 V.m c6, .bool V.one, υ V.z.r0, υ V.z.r1, υ V.z.s0, υ V.z.s1, υ V.z.c0, υ V.z.c1, υ V.z.z0, υ V.z.z1] rfl rfl rfl rfl (by kernel_rfl) (by intro u hu; simp at hu; rcases hu with rfl | rfl | rfl | rfl | rfl | rfl | rfl | rfl | rfl | rfl | rfl <;> rfl) F_p.o (by simp) rfl ?_
     intro w8 hc8 hg8 hz8
     have F_q := Lh hc8
     have HG8 := Lh hg8
     clear hc8 hg8 hz8))
 obtain ⟨x1, y1, ex1, hS1, -⟩ := ShS.of_owned2 (own_gro (own_far HO6.o ⟨w.heap.size, 1, none⟩ (.slice a6 V.m c6) (by simp)) HG8.o (by omega))
 obtain ⟨x2, y2, ex2, hS2, -⟩ := ShB.of_owned2 (own_gro (own_far HP6.o ⟨w.heap.size, 1, none⟩ (.slice a6 V.m c6) (by simp)) HG8.o (by omega))
 injection ex1 with f1 f2 f3
 injection ex2 with f4 f5 f6
 subst f1 f4
 refine bodyPost_ret (res_vote1 rfl F_q.o _ rfl) rfl ?_
 refine ⟨⟨a5, V.n, c5, V.bs, a6, V.m, c6, V.ps, V.one, V.z⟩, rfl, ⟨hS1, HV.o.u1, HK5.o, hS2, HV.o.u2, HK6.o, HV.o.uz⟩, ⟨rfl, rfl, rfl, rfl, rfl, rfl⟩, high_own HO6.o (by omega), high_own HP6.o (by omega), ?_⟩
 exact (HBW6.o.setCell (by simp) _).trans (HG8.o.blw (n := w.heap.size) (by omega) (by have := HBW6.o.size; simpa using this))
set_option maxHeartbeats 16000000 in
theorem rTwinReveal_any {R : Rv} (w : World) (hR : RvIn w R) (hn : R.n ≤ 10000) (hm : R.m ≤ 10000) :
 Calls Tryz.prog 45 #[R.v] w fun e w' => ∃ U : Rv, e = .returned U.v ∧ RvIn w' U ∧ SameR U R ∧ highB U.a U.n w.heap.size ∧ highB U.b U.m w.heap.size ∧ Below w.heap.size w w' := by
 have HR := Lh hR
 clear hR
 unfold Rv.v
 obtain ⟨F_v, F_o, HBW⟩ := bx2 w [.slice R.a R.n R.c, .slice R.b R.m R.d] 36 [.slice none 0 0, .slice none 0 0] 36
 go_enter Tryz.func45, Tryz.ntmps45
 go_wp2_with fail
 have HZ := Lh (show w.heap.size + 2 ≤ ((w.alloc (.cells #[.slice R.a R.n R.c, .slice R.b R.m R.d] 36)).alloc (.cells #[.slice none 0 0, .slice none 0 0] 36)).drew.heap.size by simp)
 replace F_v := Lh F_v.o.drew
 replace F_o := Lh F_o.o.drew
 replace HBW := Lh HBW.o.drew
 have hS0 := F_v.o
 refine wp_region_stage 6 (fun w' => Cl w' w.heap.size [.slice R.a R.n R.c, .slice R.b R.m R.d]) (by kernel_rfl) ?_
 refine tkP (i := 0) (some 3) (.fieldAddr 36 (.tmp 1) 0) 0 (fun _ => hS0) ?_
 simp only [sY]
 refine tkL (i := 1) (some 4) (.load 25 (.tmp 3)) 25 [2, 5, 6] (v := ?_) hS0 (fun w' hSw => ?_) ?_
 rotate_left
 · have q0 := hSw.c 0 _ rfl; have q1 := hSw.c 1 _ rfl
   unfold bareOp; go_simp; try with_reducible rfl
 simp only [sY]
 refine tkP (i := 3) (some 6) (.fieldAddr 36 (.tmp 1) 1) 0 (fun _ => hS0) ?_
 simp only [sY]
 refine tkL (i := 4) (some 7) (.load 34 (.tmp 6)) 34 [5, 6] (v := ?_) hS0 (fun w' hSw => ?_) ?_
 rotate_left
 · have q0 := hSw.c 0 _ rfl; have q1 := hSw.c 1 _ rfl
   unfold bareOp; go_simp; try with_reducible rfl
 simp only [sY]
 refine onl (i := 2) (some 5) (.call { callee := .builtin .append, args := #[.const (.slice none 0 0), .tmp 4], argTypes := #[25, 25] }) 25 (fun K hK => ?_)
 unfold bareOp
 refine wp_appI _ (.tmp 4) rfl (w.heap.size + 2) R.a R.n R.c R.ms rfl rfl (HR.o.keep HBW.o).h1 HR.o.k1 hn (by have := HZ.o; omega) ?_
 intro v5 w5 ho5 hb5
 obtain ⟨a5, c5, rfl, -, hk5⟩ := ShI.of_owned2 ho5
 have HK5 := Lh hk5
 have HO5 := Lh ho5
 replace F_v := Lh (F_v.o.keepN hb5 (by omega))
 replace F_o := Lh (F_o.o.keepN hb5 (by omega))
 replace HBW := Lh (HBW.o.trans (hb5.mono (by omega)))
 replace HZ := Lh (Nat.le_trans HZ.o hb5.size)
 clear ho5 hk5 hb5 hS0
 have hS0 := F_v.o
 refine hK.o _ _ (fun _ => hS0) ?_
 clear hK K
 try simp only [sY]
 refine onl (i := 5) (some 8) (.call { callee := .builtin .append, args := #[.const (.slice none 0 0), .tmp 7], argTypes := #[34, 34] }) 34 (fun K hK => ?_)
 unfold bareOp
 refine wp_appU _ (.tmp 7) rfl _ R.b R.m R.d R.ns rfl rfl (HR.o.keep HBW.o).h2 HR.o.k2 hm (Nat.le_refl _) ?_
 intro v6 w6 ho6 hb6
 obtain ⟨a6, c6, rfl, -, hk6⟩ := ShI.of_owned2 ho6
 have HK6 := Lh hk6
 have HO6 := Lh (owns_below2 HO5.o hb6)
 have HP6 := Lh (owns_mono ho6 HZ.o)
 replace F_v := Lh (F_v.o.keep hb6)
 replace F_o := Lh (F_o.o.keep hb6)
 replace HBW := Kt HBW hb6
 replace HZ := Lh (Nat.le_trans HZ.o hb6.size)
 clear ho6 hk6 hb6 hS0
 have hS0 := F_v.o
 refine hK.o _ _ (fun _ => hS0) ?_
 clear hK K
 try simp only [sY]
 refine onl (i := 6) (some 9) (.build 36 #[(0, .tmp 5), (1, .tmp 8)]) 36 (fun K hK => ?_)
 unfold bareOp
 go_wp2_with fail
 refine hK.o _ _ lt8 ?_
 clear hK K
 try simp only [sY]
 refine onl (i := 7) none (.store 36 (.tmp 2) (.tmp 9)) 0 (fun K hK => ?_)
 unfold bareOp
 have x0 := F_o.o.c 0 _ rfl
 have x1 := F_o.o.c 1 _ rfl
 have xf0 := F_o.o.f 0
 have xf1 := F_o.o.f 1
 go_wp2_with fail
 clear x0 x1 xf0 xf1
 refine hK.o _ _ lt8 ?_
 clear hK K
 try simp only [sY]
 refine wpAnyB_done (by kernel_rfl) ?_ _
 have F_q := Lh ((F_o.o.set (m := [.slice a5 R.n c5, .slice none 0 0]) 0 (.slice a5 R.n c5) (by simp) rfl).set (m := [.slice a5 R.n c5, .slice a6 R.m c6]) 1 (.slice a6 R.m c6) (by simp) rfl)
 go_wp2_with fail
 obtain ⟨x1, y1, ex1, hS1, -⟩ := ShI.of_owned2 (own_far (own_far HO6.o ⟨w.heap.size + 1, 0, none⟩ (.slice a5 R.n c5) (by simp)) ⟨w.heap.size + 1, 1, none⟩ (.slice a6 R.m c6) (by simp))
 obtain ⟨x2, y2, ex2, hS2, -⟩ := ShI.of_owned2 (own_far (own_far HP6.o ⟨w.heap.size + 1, 0, none⟩ (.slice a5 R.n c5) (by simp)) ⟨w.heap.size + 1, 1, none⟩ (.slice a6 R.m c6) (by simp))
 injection ex1 with f1 f2 f3
 injection ex2 with f4 f5 f6
 subst f1 f4
 refine bodyPost_ret (res_rev1 rfl F_q.o _ rfl) rfl ?_
 refine ⟨⟨a5, R.n, c5, R.ms, a6, R.m, c6, R.ns⟩, rfl, ⟨hS1, HR.o.u1, HK5.o, hS2, HR.o.u2, HK6.o⟩, ⟨rfl, rfl, rfl, rfl⟩, high_own HO6.o (by omega), high_own HP6.o (by omega), ?_⟩
 exact (HBW.o.setCell (by simp) _).setCell (by simp) _
end Go.Proofs.YtlbldpkgnonbpaaGreatDoor
