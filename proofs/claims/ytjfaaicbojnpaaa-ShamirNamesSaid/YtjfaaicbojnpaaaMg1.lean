/- Folded: MrgC, MrgD, MrgE. -/
import Derived.Test.YtjfaaicbojnpaaaMg0
import Derived.Test.YtjfaaicbojnpaaaStageG
/- shamir.Merge of no deal. -/
namespace Go.Proofs.Ytjfaaicbojnpaaa
open Go.RowKit Num
set_option linter.unusedSimpArgs false
set_option linter.unusedVariables false

set_option maxRecDepth 100000 in
set_option maxHeartbeats 8000000 in
theorem smerge_nil {P Q G er : Int} {ps ss : List Int} (w : World) (hP : 0 ≤ P) (hQ : 0 ≤ Q) (hG : 0 ≤ G) (hv : mergeS P Q G [] = (er, ps, ss)) :
    Calls Try.prog 15 #[.agg #[.int .u64 P, .int .u64 Q, .int .u64 G], .slice none 0 0] w (RetDeal w er ps ss) := by
  have hmf : ∀ (fn : Fn) (first cap : Array Value) (w : World), (Instr.makeFunc fn first cap).run Try.prog w = .ok (.func fn first cap) w := fun _ _ _ _ => rfl
  by_cases hH : Has P Q G
  case neg =>
    obtain ⟨rfl, hps0⟩ := Prod.mk.inj (show (300, [], []) = (er, ps, ss) by rw [← hv]; simp [mergeS, hH])
    obtain ⟨rfl, rfl⟩ := Prod.mk.inj hps0
    have HH := Lib.hid hH
    clear hv hH hps0
    have F_g := Lib.hid (show Boxed (((w.alloc (.cells #[.int .u64 P, .int .u64 Q, .int .u64 G] 24)).alloc (.cells #[.slice none 0 0] 33)).alloc (.cells #[.slice none 0 0, .slice none 0 0] 27)) w.heap.size P Q G from ((Boxed.at _ P Q G _ w.heap.size (by simp)).alloc _).alloc _)
    have F_l := Lib.hid (show OneAt (((w.alloc (.cells #[.int .u64 P, .int .u64 Q, .int .u64 G] 24)).alloc (.cells #[.slice none 0 0] 33)).alloc (.cells #[.slice none 0 0, .slice none 0 0] 27)) (w.heap.size + 1) (.slice none 0 0) from (OneAt.at _ _ _ (w.heap.size + 1) (by simp)).alloc _)
    have F_b := Lib.hid (show DealBox (((w.alloc (.cells #[.int .u64 P, .int .u64 Q, .int .u64 G] 24)).alloc (.cells #[.slice none 0 0] 33)).alloc (.cells #[.slice none 0 0, .slice none 0 0] 27)) (w.heap.size + 2) (.slice none 0 0) (.slice none 0 0) from DealBox.at _ _ _ _ (w.heap.size + 1 + 1) (by simp))
    have HBW := Lib.hid (show Below w.heap.size w (((w.alloc (.cells #[.int .u64 P, .int .u64 Q, .int .u64 G] 24)).alloc (.cells #[.slice none 0 0] 33)).alloc (.cells #[.slice none 0 0, .slice none 0 0] 27)) from (((Below.refl _ _).alloc (by simp <;> omega) _).alloc (by simp <;> omega) _).alloc (by simp <;> omega) _)
    go_enter Try.func15, Try.ntmps15
    obtain ⟨g0, g1', g2', -⟩ := id F_g.out
    obtain ⟨l0, l1, -⟩ := id F_l.out
    obtain ⟨y0, y1, y2, y3, -⟩ := id F_b.out
    go_wp2_with fail
    clear g0 g1' g2' l0 l1 y0 y1 y2 y3
    refine (form_no P Q G _ hP hQ hG HH.out).mono ?_
    rintro e w1 ⟨rfl, hb1⟩
    replace F_g := Lib.hid (F_g.out.keep hb1)
    replace F_l := Lib.hid (F_l.out.keep hb1)
    replace F_b := Lib.hid (F_b.out.keep hb1)
    replace HBW := Lib.hid (HBW.out.trans (hb1.mono HBW.out.size))
    clear hb1
    obtain ⟨g0, g1', g2', -⟩ := id F_g.out
    obtain ⟨l0, l1, -⟩ := id F_l.out
    obtain ⟨y0, y1, y2, y3, -⟩ := id F_b.out
    go_wp2_with fail
    clear g0 g1' g2' l0 l1 y0 y1 y2 y3
    exact bodyPost_ret (res_deal rfl (F_b.out.stored (.slice none 0 0) (.slice none 0 0)) _ rfl rfl rfl rfl) rfl ⟨_, _, rfl, OwnU.nil _ _, OwnU.nil _ _, (HBW.out.setCell (p := ⟨w.heap.size + 2, 0, none⟩) (by show w.heap.size ≤ w.heap.size + 2; omega) _).setCell (p := ⟨w.heap.size + 2, 1, none⟩) (by show w.heap.size ≤ w.heap.size + 2; omega) _⟩
  case pos =>
    obtain ⟨rfl, hps0⟩ := Prod.mk.inj (show (2, [], []) = (er, ps, ss) by rw [← hv]; simp [mergeS, hH])
    obtain ⟨rfl, rfl⟩ := Prod.mk.inj hps0
    have HH := Lib.hid hH
    clear hv hH hps0
    have F_g := Lib.hid (show Boxed (((w.alloc (.cells #[.int .u64 P, .int .u64 Q, .int .u64 G] 24)).alloc (.cells #[.slice none 0 0] 33)).alloc (.cells #[.slice none 0 0, .slice none 0 0] 27)) w.heap.size P Q G from ((Boxed.at _ P Q G _ w.heap.size (by simp)).alloc _).alloc _)
    have F_l := Lib.hid (show OneAt (((w.alloc (.cells #[.int .u64 P, .int .u64 Q, .int .u64 G] 24)).alloc (.cells #[.slice none 0 0] 33)).alloc (.cells #[.slice none 0 0, .slice none 0 0] 27)) (w.heap.size + 1) (.slice none 0 0) from (OneAt.at _ _ _ (w.heap.size + 1) (by simp)).alloc _)
    have F_b := Lib.hid (show DealBox (((w.alloc (.cells #[.int .u64 P, .int .u64 Q, .int .u64 G] 24)).alloc (.cells #[.slice none 0 0] 33)).alloc (.cells #[.slice none 0 0, .slice none 0 0] 27)) (w.heap.size + 2) (.slice none 0 0) (.slice none 0 0) from DealBox.at _ _ _ _ (w.heap.size + 1 + 1) (by simp))
    have HBW := Lib.hid (show Below w.heap.size w (((w.alloc (.cells #[.int .u64 P, .int .u64 Q, .int .u64 G] 24)).alloc (.cells #[.slice none 0 0] 33)).alloc (.cells #[.slice none 0 0, .slice none 0 0] 27)) from (((Below.refl _ _).alloc (by simp <;> omega) _).alloc (by simp <;> omega) _).alloc (by simp <;> omega) _)
    go_enter Try.func15, Try.ntmps15
    obtain ⟨g0, g1', g2', -⟩ := id F_g.out
    obtain ⟨l0, l1, -⟩ := id F_l.out
    obtain ⟨y0, y1, y2, y3, -⟩ := id F_b.out
    go_wp2_with fail
    clear g0 g1' g2' l0 l1 y0 y1 y2 y3
    refine (form_yes P Q G _ HH.out).mono ?_
    rintro e w1 ⟨rfl, hb1⟩
    replace F_g := Lib.hid (F_g.out.keep hb1)
    replace F_l := Lib.hid (F_l.out.keep hb1)
    replace F_b := Lib.hid (F_b.out.keep hb1)
    replace HBW := Lib.hid (HBW.out.trans (hb1.mono HBW.out.size))
    clear hb1
    obtain ⟨g0, g1', g2', -⟩ := id F_g.out
    obtain ⟨l0, l1, -⟩ := id F_l.out
    obtain ⟨y0, y1, y2, y3, -⟩ := id F_b.out
    go_wp2_with fail
    clear g0 g1' g2' l0 l1 y0 y1 y2 y3
    exact bodyPost_ret (res_deal rfl (F_b.out.stored (.slice none 0 0) (.slice none 0 0)) _ rfl rfl rfl rfl) rfl ⟨_, _, rfl, OwnU.nil _ _, OwnU.nil _ _, (HBW.out.setCell (p := ⟨w.heap.size + 2, 0, none⟩) (by show w.heap.size ≤ w.heap.size + 2; omega) _).setCell (p := ⟨w.heap.size + 2, 1, none⟩) (by show w.heap.size ≤ w.heap.size + 2; omega) _⟩
end Go.Proofs.Ytjfaaicbojnpaaa
/- The reference's copies, with their rows. -/
namespace Go.Proofs.Ytjfaaicbojnpaaa
open Go.RowKit Num
set_option linter.unusedSimpArgs false
set_option linter.unusedVariables false

set_option maxHeartbeats 2000000 in
theorem rtwin64_own {a : Option Addr} {n c : Nat} {xs : List Int} (w : World) (h : ShI .u64 w a n xs) (h1 : 1 ≤ n) (hn : n ≤ 10000) :
    Calls Try.prog 18 #[.slice a n c] w fun e w' => ∃ v, e = .returned v ∧ OwnU w' w.heap.size v xs ∧ Below w.heap.size w w' := by
  obtain ⟨i0, hi, hz0, hz1, hz2⟩ := info_parts (P := Try.prog) (e := 22) (z := .int .u64 0) (size := 1) (bytes := 8) (by kernel_rfl)
  have HS := Lib.hid h
  have hl := h.len
  obtain ⟨s, o, rfl, -, -, -⟩ := shI_some h h1
  have HL := Lib.hid (show (xs.map (Value.int IntKind.u64)).length = n * 1 by rw [List.length_map, hl, Nat.mul_one])
  have HLN := Lib.hid hl
  clear h hl
  go_enter Try.func18, Try.ntmps18
  go_wp2_with (at_builtin; refine wpList_append_own _ rfl _ _ 25 rfl w.heap.size 22 i0 (.int .u64 0) 1 8 Try.underlying25 hi hz0 hz1 hz2 rfl (by decide) _ _ _ rfl (World.ownsRow_nil w _ _ _) _ n c (xs.map (Value.int IntKind.u64)) rfl HL.out HS.out.cells (fun u hu => by obtain ⟨x, -, rfl⟩ := List.mem_map.1 hu; rfl) (by unfold maxLen; omega) (by omega) (Nat.le_refl _) ?_; intro v' w1 hown hgr hnil; have hB := Lib.hid (Below.grown (Below.refl w.heap.size w) hgr (Nat.le_refl _) (fun k hk => by cases hk)); have HOWN := Lib.hid hown; clear hown hgr hnil)
  go_ret
  have h9 := HOWN.out
  rw [Nat.zero_add, List.nil_append] at h9
  refine ⟨_, rfl, ?_, hB.out⟩
  unfold OwnU
  rw [← HLN.out]
  exact h9

set_option maxRecDepth 100000 in
set_option maxHeartbeats 4000000 in
theorem rtwin_own {a b : Option Addr} {n c m d : Nat} {xs ys : List Int} (w : World) (h1 : ShI .u64 w a n xs) (h2 : ShI .u64 w b m ys) (k1 : 1 ≤ n) (k2 : 1 ≤ m) (hn : n ≤ 10000) (hm : m ≤ 10000) :
    Calls Try.prog 14 #[.agg #[.slice a n c, .slice b m d]] w (RetOne w xs ys) := by
  have H1 := Lib.hid h1
  have H2 := Lib.hid h2
  clear h1 h2
  have F_x := Lib.hid (show DealBox ((w.alloc (.cells #[.slice a n c, .slice b m d] 27)).alloc (.cells #[.slice none 0 0, .slice none 0 0] 27)) w.heap.size (.slice a n c) (.slice b m d) from (DealBox.at _ _ _ _ w.heap.size (by simp)).alloc _)
  have F_r := Lib.hid (show DealBox ((w.alloc (.cells #[.slice a n c, .slice b m d] 27)).alloc (.cells #[.slice none 0 0, .slice none 0 0] 27)) (w.heap.size + 1) (.slice none 0 0) (.slice none 0 0) from DealBox.at _ _ _ _ (w.heap.size + 1) (by simp))
  have HBW := Lib.hid (show Below w.heap.size w ((w.alloc (.cells #[.slice a n c, .slice b m d] 27)).alloc (.cells #[.slice none 0 0, .slice none 0 0] 27)) from ((Below.refl _ _).alloc (by simp <;> omega) _).alloc (by simp <;> omega) _)
  go_enter Try.func14, Try.ntmps14
  go_wp2_with fail
  replace F_x := Lib.hid F_x.out.drew
  replace F_r := Lib.hid F_r.out.drew
  replace HBW := Lib.hid HBW.out.drew
  have hS := And.intro F_x.out.c0 F_x.out.c1
  refine wp_region_stage 7 (fun w' => w'.cell? ⟨w.heap.size, 0, none⟩ = some (.slice a n c) ∧ w'.cell? ⟨w.heap.size, 1, none⟩ = some (.slice b m d)) (by kernel_rfl) ?_
  refine wpAnyB_takeP (i := 0) (some 3) (Op.fieldAddr 27 (Operand.tmp 1) 0) 0 (v := ?_) ⟨_, rfl, rfl, rfl, rfl, rfl⟩ (by kernel_rfl) (by kernel_rfl) (by kernel_rfl) (by kernel_rfl) (fun _ _ _ h => h) (fun _ => hS) (fun w' => ?_) ?_
  rotate_left
  · unfold bareOp
    go_simp
    try with_reducible rfl
  simp only [Act.put, List.setIfInBounds_toArray, List.set_cons_zero, List.set_cons_succ]
  refine wpAnyB_take (i := 1) (some 4) (Op.load 25 (Operand.tmp 3)) 25 (v := ?_) ⟨_, rfl, rfl, rfl, rfl, rfl⟩ (by kernel_rfl) (by kernel_rfl) (by kernel_rfl) [2, 5, 6, 7] (by kernel_rfl) (fun _ _ _ h => h) hS (fun w' hSw => ?_) ?_
  rotate_left
  · obtain ⟨b3, b4⟩ := hSw
    unfold bareOp
    go_simp
    try with_reducible rfl
  simp only [Act.put, List.setIfInBounds_toArray, List.set_cons_zero, List.set_cons_succ]
  refine wpAnyB_takeP (i := 3) (some 6) (Op.fieldAddr 27 (Operand.tmp 1) 1) 0 (v := ?_) ⟨_, rfl, rfl, rfl, rfl, rfl⟩ (by kernel_rfl) (by kernel_rfl) (by kernel_rfl) (by kernel_rfl) (fun _ _ _ h => h) (fun _ => hS) (fun w' => ?_) ?_
  rotate_left
  · unfold bareOp
    go_simp
    try with_reducible rfl
  simp only [Act.put, List.setIfInBounds_toArray, List.set_cons_zero, List.set_cons_succ]
  refine wpAnyB_take (i := 4) (some 7) (Op.load 25 (Operand.tmp 6)) 25 (v := ?_) ⟨_, rfl, rfl, rfl, rfl, rfl⟩ (by kernel_rfl) (by kernel_rfl) (by kernel_rfl) [5, 6, 7] (by kernel_rfl) (fun _ _ _ h => h) hS (fun w' hSw => ?_) ?_
  rotate_left
  · obtain ⟨b3, b4⟩ := hSw
    unfold bareOp
    go_simp
    try with_reducible rfl
  simp only [Act.put, List.setIfInBounds_toArray, List.set_cons_zero, List.set_cons_succ]
  refine wpAnyB_only (i := 2) (some 5) (Op.call { callee := Callee.value (Operand.func 18), args := #[Operand.tmp 4], argTypes := #[25] }) 25 ⟨_, rfl, rfl, rfl, rfl, rfl⟩ (by kernel_rfl) (fun K hK => ?_)
  unfold bareOp
  go_wp2_with fail
  have hz1 := F_r.out.lt
  refine (rtwin64_own _ (H1.out.keep HBW.out) k1 (by omega)).mono ?_
  rintro e w8 ⟨v1, rfl, ho1, hb1⟩
  obtain ⟨t1, u1c, rfl⟩ := ho1.sl
  replace F_x := Lib.hid (F_x.out.keep hb1)
  replace F_r := Lib.hid (F_r.out.keep hb1)
  replace HBW := Lib.hid (HBW.out.trans (hb1.mono HBW.out.size))
  replace hS := And.intro F_x.out.c0 F_x.out.c1
  have F_1 := Lib.hid (ho1.mono (n₀ := w.heap.size + 2) (Nat.succ_le_of_lt hz1))
  clear hb1 ho1 hz1
  refine hK.out _ _ (fun _ => hS) ?_
  clear hK K
  try simp only [Act.put, List.setIfInBounds_toArray, List.set_cons_zero, List.set_cons_succ]
  refine wpAnyB_only (i := 5) (some 8) (Op.call { callee := Callee.value (Operand.func 18), args := #[Operand.tmp 7], argTypes := #[25] }) 25 ⟨_, rfl, rfl, rfl, rfl, rfl⟩ (by kernel_rfl) (fun K hK => ?_)
  unfold bareOp
  go_wp2_with fail
  have hz2 := F_r.out.lt
  refine (rtwin64_own _ (H2.out.keep HBW.out) k2 (by omega)).mono ?_
  rintro e w8 ⟨v2, rfl, ho2, hb2⟩
  obtain ⟨t2, u2c, rfl⟩ := ho2.sl
  replace F_x := Lib.hid (F_x.out.keep hb2)
  replace F_r := Lib.hid (F_r.out.keep hb2)
  replace F_1 := Lib.hid (F_1.out.keep hb2)
  replace HBW := Lib.hid (HBW.out.trans (hb2.mono HBW.out.size))
  replace hS := And.intro F_x.out.c0 F_x.out.c1
  have F_2 := Lib.hid (ho2.mono (n₀ := w.heap.size + 2) (Nat.succ_le_of_lt hz2))
  clear hb2 ho2 hz2
  refine hK.out _ _ (fun _ => hS) ?_
  clear hK K
  try simp only [Act.put, List.setIfInBounds_toArray, List.set_cons_zero, List.set_cons_succ]
  refine wpAnyB_takeP (i := 6) (some 9) (Op.build 27 #[(0, Operand.tmp 5), (1, Operand.tmp 8)]) 27 (v := ?_) ⟨_, rfl, rfl, rfl, rfl, rfl⟩ (by kernel_rfl) (by kernel_rfl) (by kernel_rfl) (by kernel_rfl) (fun _ _ _ h => h) (fun _ => hS) (fun w' => ?_) ?_
  rotate_left
  · unfold bareOp
    go_simp
    try with_reducible rfl
  simp only [Act.put, List.setIfInBounds_toArray, List.set_cons_zero, List.set_cons_succ]
  refine wpAnyB_only (i := 7) none (Op.store 27 (Operand.tmp 2) (Operand.tmp 9)) 0 ⟨_, rfl, rfl, rfl, rfl, rfl⟩ (by kernel_rfl) (fun K hK => ?_)
  unfold bareOp
  obtain ⟨za, zb, zc, zd, -⟩ := id F_r.out
  go_wp2_with fail
  refine hK.out _ _ (fun h => absurd (h.symm.trans (by kernel_rfl : _ = true)) (by decide)) ?_
  clear hK K
  try simp only [Act.put, List.setIfInBounds_toArray, List.set_cons_zero, List.set_cons_succ]
  refine wpAnyB_done (by kernel_rfl) ?_ _
  clear hS
  go_wp2_with fail
  exact bodyPost_ret (res_deal1 rfl (F_r.out.stored _ _) _ rfl) rfl ⟨_, _, rfl, ((F_1.out.far (b := w.heap.size + 1) (o := 0) (Nat.lt_succ_self _) _).far (b := w.heap.size + 1) (o := 1) (Nat.lt_succ_self _) _).mono (by omega), ((F_2.out.far (b := w.heap.size + 1) (o := 0) (Nat.lt_succ_self _) _).far (b := w.heap.size + 1) (o := 1) (Nat.lt_succ_self _) _).mono (by omega), (HBW.out.setCell (p := ⟨w.heap.size + 1, 0, none⟩) (by show w.heap.size ≤ w.heap.size + 1; omega) _).setCell (p := ⟨w.heap.size + 1, 1, none⟩) (by show w.heap.size ≤ w.heap.size + 1; omega) _⟩
end Go.Proofs.Ytjfaaicbojnpaaa
/- The reference's mergeable. -/
namespace Go.Proofs.Ytjfaaicbojnpaaa
open Go.RowKit Num
set_option linter.unusedSimpArgs false
set_option linter.unusedVariables false

set_option maxRecDepth 100000 in
set_option maxHeartbeats 8000000 in
theorem rmergeable_any {P Q G : Int} {s o k cap : Nat} {l : List Dl} {E : Dl} (w : World) (hr : DRow w s o l) (h0 : l[0]? = some E) (hk : k = l.length) (hk1 : 1 ≤ k) (hk8 : k ≤ 8) :
    Calls Try.prog 55 #[.agg #[.int .u64 P, .int .u64 Q, .int .u64 G], .slice (some ⟨s, o, none⟩) k cap] w fun e w' => e = .returned (.bool (mallS P Q E l)) ∧ Below w.heap.size w w' := by
  have HR := Lib.hid hr
  have HK := Lib.hid hk
  obtain ⟨h1, hE⟩ := List.getElem?_eq_some_iff.1 h0
  have HE0 := Lib.hid (show w.cell? ⟨s, o, none⟩ = some (.slice E.a E.n E.c) by have := (hr.c 0 h1).1; rwa [hE, Nat.zero_mul, Nat.add_zero] at this)
  have HE1 := Lib.hid (show w.cell? ⟨s, o + 1, none⟩ = some (.slice E.b E.m E.d) by have := (hr.c 0 h1).2; rwa [hE, Nat.zero_mul, Nat.add_zero] at this)
  have HEI := Lib.hid (show DlIn w E by rw [← hE]; exact hr.ok _ (List.getElem_mem h1))
  have hs := hr.lt
  have c26 : Try.prog.cellsOf 27 = 2 := by kernel_rfl
  have d8 : decide ((k : Int) ≤ 8) = true := by simp; omega
  have d1 : decide ((1 : Int) ≤ (k : Int)) = true := by simp; omega
  have hk0 : 0 < k := by omega
  have hk0i : (0 : Int) < (k : Int) := by omega
  clear hr h0 hE h1 hk
  have F_g := Lib.hid (show Boxed (w.alloc (.cells #[.int .u64 P, .int .u64 Q, .int .u64 G] 24)) w.heap.size P Q G from Boxed.at _ P Q G _ w.heap.size (by simp))
  have HBW := Lib.hid (show Below w.heap.size w (w.alloc (.cells #[.int .u64 P, .int .u64 Q, .int .u64 G] 24)) from (Below.refl _ _).alloc (by simp <;> omega) _)
  go_enter Try.func55, Try.ntmps55
  go_wp2_with fail
  go_loopw [5, 6] (fun c5 c6 wr => ∃ i : Nat, i ≤ k ∧ c5 = .int .i64 i ∧ Hid (∀ j (h : j < l.length), j < i → fitsS P Q l[j].xs l[j].ys E.xs E.ys = true) ∧ Hid (Boxed wr w.heap.size P Q G) ∧ Hid (Below w.heap.size w wr)) (fun c5 _ _ => k - (intOf c5).toNat)
  case atStart => exact ⟨0, Nat.zero_le _, rfl, (fun j h hj => by omega), F_g.out, HBW.out⟩
  case round =>
    clear F_g HBW
    obtain ⟨i, hi, rfl, HA, F_g, HBW⟩ := hrel
    obtain ⟨wo, rfl⟩ : ∃ wo : World, wo = wr := ⟨_, rfl⟩
    by_cases hlt : i < k
    case neg =>
      have HZ := Lib.hid (show mallS P Q E l = true by
        rw [mallS, List.all_eq_true]
        intro D hD
        obtain ⟨j, hj, rfl⟩ := List.mem_iff_getElem.1 hD
        exact HA.out j hj (by have := HK.out; omega))
      have hd : decide ((i : Int) < (k : Int)) = false := by simp; omega
      have hdn : decide (i < k) = false := by simpa using hlt
      go_wp2_with fail
      go_ret
      exact ⟨by rw [HZ.out]; rfl, HBW.out⟩
    case pos =>
      have hd : decide ((i : Int) < (k : Int)) = true := by simp; omega
      have hdn : decide (i < k) = true := by simpa using hlt
      have hil : i < l.length := by have := HK.out; omega
      have hi0 : (0 : Int) ≤ (i : Int) := by omega
      have hi1 : (i : Int) < (k : Int) := by omega
      have hwi : IntKind.i64.wrap ((i : Int) + 1) = (i : Int) + 1 := IntWalk.i64_in _ (by omega)
      obtain ⟨D, hD⟩ : ∃ D, l[i] = D := ⟨_, rfl⟩
      have hc0 := (HBW.out.cell (p := ⟨s, o + i * 2, none⟩) hs).trans (HR.out.c i hil).1
      have hc1 := (HBW.out.cell (p := ⟨s, o + i * 2 + 1, none⟩) hs).trans (HR.out.c i hil).2
      rw [hD] at hc0 hc1
      have HDM := Lib.hid (show D ∈ l by rw [← hD]; exact List.getElem_mem hil)
      have HDI := Lib.hid (HR.out.ok D HDM.out)
      have HDE := Lib.hid hD
      have HN1 := Lib.hid HDI.out.h1.len
      have HN2 := Lib.hid HDI.out.h2.len
      have HM1 := Lib.hid HEI.out.h1.len
      have HM2 := Lib.hid HEI.out.h2.len
      clear hD
      go_wp2_with fail
      clear hc0 hc1
      have F_d := Lib.hid (DealBox.at wo (.slice D.a D.n D.c) (.slice D.b D.m D.d) 27 wo.heap.size rfl)
      replace F_g := Lib.hid (F_g.out.alloc (.cells #[.slice D.a D.n D.c, .slice D.b D.m D.d] 27))
      replace HBW := Lib.hid (HBW.out.alloc HBW.out.size (.cells #[.slice D.a D.n D.c, .slice D.b D.m D.d] 27))
      cases hb1 : belowS P D.xs with
      | false =>
        have HB1 := Lib.hid hb1
        clear hb1
        have HZ := Lib.hid (show mallS P Q E l = false by
          rw [mallS, List.all_eq_false]
          exact ⟨D, HDM.out, by simp [fitsS, HB1.out]⟩)
        replace F_g := Lib.hid F_g.out.drew
        replace F_d := Lib.hid F_d.out.drew
        replace HBW := Lib.hid HBW.out.drew
        have hS := And.intro F_g.out.s (And.intro F_d.out.c0 (And.intro F_d.out.c1 (And.intro ((HBW.out.cell (p := ⟨s, o, none⟩) hs).trans HE0.out) ((HBW.out.cell (p := ⟨s, o + 1, none⟩) hs).trans HE1.out))))
        refine wp_region_stage 44 (fun w' => SBox w' w.heap.size P Q G ∧ w'.cell? ⟨wo.heap.size, 0, none⟩ = some (.slice D.a D.n D.c) ∧ w'.cell? ⟨wo.heap.size, 1, none⟩ = some (.slice D.b D.m D.d) ∧ w'.cell? ⟨s, o, none⟩ = some (.slice E.a E.n E.c) ∧ w'.cell? ⟨s, o + 1, none⟩ = some (.slice E.b E.m E.d)) (by kernel_rfl) ?_
        refine wpAnyB_takeP (i := 0) (some 22) (Op.fieldAddr 27 (Operand.tmp 6) 0) 0 (v := ?_) ⟨_, rfl, rfl, rfl, rfl, rfl⟩ (by kernel_rfl) (by kernel_rfl) (by kernel_rfl) (by kernel_rfl) (fun _ _ _ h => h) (fun _ => hS) (fun w' => ?_) ?_
        rotate_left
        · unfold bareOp
          go_simp
          try with_reducible rfl
        simp only [Act.put, List.setIfInBounds_toArray, List.set_cons_zero, List.set_cons_succ]
        refine wpAnyB_take (i := 1) (some 23) (Op.load 25 (Operand.tmp 22)) 25 (v := ?_) ⟨_, rfl, rfl, rfl, rfl, rfl⟩ (by kernel_rfl) (by kernel_rfl) (by kernel_rfl) [4, 5, 6, 7, 8, 9, 10, 11, 12, 13, 14, 15, 16, 17, 18, 19, 20, 21, 22, 23, 24, 25, 26, 27, 28, 29, 30, 31, 32, 33, 34, 35, 36, 37, 38, 39, 40, 41, 42, 43, 44] (by kernel_rfl) (fun _ _ _ h => h) hS (fun w' hSw => ?_) ?_
        rotate_left
        · obtain ⟨⟨b0, b1, b2⟩, b3, b4, b5, b6⟩ := hSw
          unfold bareOp
          go_simp
          try with_reducible rfl
        simp only [Act.put, List.setIfInBounds_toArray, List.set_cons_zero, List.set_cons_succ]
        refine wpAnyB_takeP (i := 2) (some 24) (Op.fieldAddr 24 (Operand.tmp 2) 0) 0 (v := ?_) ⟨_, rfl, rfl, rfl, rfl, rfl⟩ (by kernel_rfl) (by kernel_rfl) (by kernel_rfl) (by kernel_rfl) (fun _ _ _ h => h) (fun _ => hS) (fun w' => ?_) ?_
        rotate_left
        · unfold bareOp
          go_simp
          try with_reducible rfl
        simp only [Act.put, List.setIfInBounds_toArray, List.set_cons_zero, List.set_cons_succ]
        refine wpAnyB_take (i := 3) (some 25) (Op.load 22 (Operand.tmp 24)) 22 (v := ?_) ⟨_, rfl, rfl, rfl, rfl, rfl⟩ (by kernel_rfl) (by kernel_rfl) (by kernel_rfl) [4, 5, 6, 7, 8, 9, 10, 11, 12, 13, 14, 15, 16, 17, 18, 19, 20, 21, 22, 23, 24, 25, 26, 27, 28, 29, 30, 31, 32, 33, 34, 35, 36, 37, 38, 39, 40, 41, 42, 43, 44] (by kernel_rfl) (fun _ _ _ h => h) hS (fun w' hSw => ?_) ?_
        rotate_left
        · obtain ⟨⟨b0, b1, b2⟩, b3, b4, b5, b6⟩ := hSw
          unfold bareOp
          go_simp
          try with_reducible rfl
        simp only [Act.put, List.setIfInBounds_toArray, List.set_cons_zero, List.set_cons_succ]
        refine wpAnyB_only (i := 4) (some 26) (Op.call { callee := Callee.value (Operand.func 60), args := #[Operand.tmp 23, Operand.tmp 25], argTypes := #[25, 22] }) 4 ⟨_, rfl, rfl, rfl, rfl, rfl⟩ (by kernel_rfl) (fun K hK => ?_)
        unfold bareOp
        go_wp2_with (go_at_call 60; refine (rbelow_any _ (HDI.out.h1.keep HBW.out) HDI.out.n1 HB1.out).mono ?_; rintro e w8 ⟨rfl, rfl⟩)
        refine hK.out _ _ (fun _ => hS) ?_
        clear hK K
        try simp only [Act.put, List.setIfInBounds_toArray, List.set_cons_zero, List.set_cons_succ]
        refine wpAnyB_takeP (i := 5) (some 27) (Op.unOp UnOp.not 4 (Operand.tmp 26)) 4 (v := ?_) ⟨_, rfl, rfl, rfl, rfl, rfl⟩ (by kernel_rfl) (by kernel_rfl) (by kernel_rfl) (by kernel_rfl) (fun _ _ _ h => h) (fun _ => hS) (fun w' => ?_) ?_
        rotate_left
        · unfold bareOp
          go_simp
          try with_reducible rfl
        simp only [Act.put, List.setIfInBounds_toArray, List.set_cons_zero, List.set_cons_succ]
        refine wpAnyB_takeP (i := 6) (some 28) (Op.move (Operand.tmp 27)) 4 (v := ?_) ⟨_, rfl, rfl, rfl, rfl, rfl⟩ (by kernel_rfl) (by kernel_rfl) (by kernel_rfl) (by kernel_rfl) (fun _ _ _ h => h) (fun _ => hS) (fun w' => ?_) ?_
        rotate_left
        · unfold bareOp
          go_simp
          try with_reducible rfl
        simp only [Act.put, List.setIfInBounds_toArray, List.set_cons_zero, List.set_cons_succ]
        refine wpAnyB_skip (i := 7) (some 29) (Op.fieldAddr 27 (Operand.tmp 6) 1) 0 (some (6, false)) ⟨_, rfl, rfl, rfl, rfl, rfl⟩ rfl (by kernel_rfl) (by kernel_rfl) (by kernel_rfl) (by kernel_rfl) (fun _ _ _ h => h) (fun _ => hS) ?_
        simp only [Act.put, List.setIfInBounds_toArray, List.set_cons_zero, List.set_cons_succ]
        refine wpAnyB_skip (i := 8) (some 30) (Op.load 25 (Operand.tmp 29)) 25 (some (6, false)) ⟨_, rfl, rfl, rfl, rfl, rfl⟩ rfl (by kernel_rfl) (by kernel_rfl) (by kernel_rfl) (by kernel_rfl) (fun _ _ _ h => h) (fun _ => hS) ?_
        simp only [Act.put, List.setIfInBounds_toArray, List.set_cons_zero, List.set_cons_succ]
        refine wpAnyB_skip (i := 9) (some 31) (Op.fieldAddr 24 (Operand.tmp 2) 1) 0 (some (6, false)) ⟨_, rfl, rfl, rfl, rfl, rfl⟩ rfl (by kernel_rfl) (by kernel_rfl) (by kernel_rfl) (by kernel_rfl) (fun _ _ _ h => h) (fun _ => hS) ?_
        simp only [Act.put, List.setIfInBounds_toArray, List.set_cons_zero, List.set_cons_succ]
        refine wpAnyB_skip (i := 10) (some 32) (Op.load 22 (Operand.tmp 31)) 22 (some (6, false)) ⟨_, rfl, rfl, rfl, rfl, rfl⟩ rfl (by kernel_rfl) (by kernel_rfl) (by kernel_rfl) (by kernel_rfl) (fun _ _ _ h => h) (fun _ => hS) ?_
        simp only [Act.put, List.setIfInBounds_toArray, List.set_cons_zero, List.set_cons_succ]
        refine wpAnyB_skip (i := 11) (some 33) (Op.call { callee := Callee.value (Operand.func 60), args := #[Operand.tmp 30, Operand.tmp 32], argTypes := #[25, 22] }) 4 (some (6, false)) ⟨_, rfl, rfl, rfl, rfl, rfl⟩ rfl (by kernel_rfl) (by kernel_rfl) (by kernel_rfl) (by kernel_rfl) (fun _ _ _ h => h) (fun _ => hS) ?_
        simp only [Act.put, List.setIfInBounds_toArray, List.set_cons_zero, List.set_cons_succ]
        refine wpAnyB_skip (i := 12) (some 34) (Op.unOp UnOp.not 4 (Operand.tmp 33)) 4 (some (6, false)) ⟨_, rfl, rfl, rfl, rfl, rfl⟩ rfl (by kernel_rfl) (by kernel_rfl) (by kernel_rfl) (by kernel_rfl) (fun _ _ _ h => h) (fun _ => hS) ?_
        simp only [Act.put, List.setIfInBounds_toArray, List.set_cons_zero, List.set_cons_succ]
        refine wpAnyB_takeP (i := 13) (some 35) (Op.pick (Operand.tmp 28) (Operand.const (Value.bool true)) (Operand.tmp 34)) 4 (v := ?_) ⟨_, rfl, rfl, rfl, rfl, rfl⟩ (by kernel_rfl) (by kernel_rfl) (by kernel_rfl) (by kernel_rfl) (fun _ _ _ h => h) (fun _ => hS) (fun w' => ?_) ?_
        rotate_left
        · unfold bareOp
          go_simp
          try with_reducible rfl
        simp only [Act.put, List.setIfInBounds_toArray, List.set_cons_zero, List.set_cons_succ]
        refine wpAnyB_takeP (i := 14) (some 36) (Op.move (Operand.tmp 35)) 4 (v := ?_) ⟨_, rfl, rfl, rfl, rfl, rfl⟩ (by kernel_rfl) (by kernel_rfl) (by kernel_rfl) (by kernel_rfl) (fun _ _ _ h => h) (fun _ => hS) (fun w' => ?_) ?_
        rotate_left
        · unfold bareOp
          go_simp
          try with_reducible rfl
        simp only [Act.put, List.setIfInBounds_toArray, List.set_cons_zero, List.set_cons_succ]
        refine wpAnyB_skip (i := 15) (some 37) (Op.fieldAddr 27 (Operand.tmp 6) 1) 0 (some (14, false)) ⟨_, rfl, rfl, rfl, rfl, rfl⟩ rfl (by kernel_rfl) (by kernel_rfl) (by kernel_rfl) (by kernel_rfl) (fun _ _ _ h => h) (fun _ => hS) ?_
        simp only [Act.put, List.setIfInBounds_toArray, List.set_cons_zero, List.set_cons_succ]
        refine wpAnyB_skip (i := 16) (some 38) (Op.load 25 (Operand.tmp 37)) 25 (some (14, false)) ⟨_, rfl, rfl, rfl, rfl, rfl⟩ rfl (by kernel_rfl) (by kernel_rfl) (by kernel_rfl) (by kernel_rfl) (fun _ _ _ h => h) (fun _ => hS) ?_
        simp only [Act.put, List.setIfInBounds_toArray, List.set_cons_zero, List.set_cons_succ]
        refine wpAnyB_skip (i := 17) (some 39) (Op.call { callee := Callee.builtin Builtin.len, args := #[Operand.tmp 38], argTypes := #[25] }) 3 (some (14, false)) ⟨_, rfl, rfl, rfl, rfl, rfl⟩ rfl (by kernel_rfl) (by kernel_rfl) (by kernel_rfl) (by kernel_rfl) (fun _ _ _ h => h) (fun _ => hS) ?_
        simp only [Act.put, List.setIfInBounds_toArray, List.set_cons_zero, List.set_cons_succ]
        refine wpAnyB_skip (i := 18) (some 40) (Op.fieldAddr 27 (Operand.tmp 6) 0) 0 (some (14, false)) ⟨_, rfl, rfl, rfl, rfl, rfl⟩ rfl (by kernel_rfl) (by kernel_rfl) (by kernel_rfl) (by kernel_rfl) (fun _ _ _ h => h) (fun _ => hS) ?_
        simp only [Act.put, List.setIfInBounds_toArray, List.set_cons_zero, List.set_cons_succ]
        refine wpAnyB_skip (i := 19) (some 41) (Op.load 25 (Operand.tmp 40)) 25 (some (14, false)) ⟨_, rfl, rfl, rfl, rfl, rfl⟩ rfl (by kernel_rfl) (by kernel_rfl) (by kernel_rfl) (by kernel_rfl) (fun _ _ _ h => h) (fun _ => hS) ?_
        simp only [Act.put, List.setIfInBounds_toArray, List.set_cons_zero, List.set_cons_succ]
        refine wpAnyB_skip (i := 20) (some 42) (Op.call { callee := Callee.builtin Builtin.len, args := #[Operand.tmp 41], argTypes := #[25] }) 3 (some (14, false)) ⟨_, rfl, rfl, rfl, rfl, rfl⟩ rfl (by kernel_rfl) (by kernel_rfl) (by kernel_rfl) (by kernel_rfl) (fun _ _ _ h => h) (fun _ => hS) ?_
        simp only [Act.put, List.setIfInBounds_toArray, List.set_cons_zero, List.set_cons_succ]
        refine wpAnyB_skip (i := 21) (some 43) (Op.binOp BinOp.lss 3 (Operand.tmp 39) (Operand.tmp 42) 3) 4 (some (14, false)) ⟨_, rfl, rfl, rfl, rfl, rfl⟩ rfl (by kernel_rfl) (by kernel_rfl) (by kernel_rfl) (by kernel_rfl) (fun _ _ _ h => h) (fun _ => hS) ?_
        simp only [Act.put, List.setIfInBounds_toArray, List.set_cons_zero, List.set_cons_succ]
        refine wpAnyB_takeP (i := 22) (some 44) (Op.pick (Operand.tmp 36) (Operand.const (Value.bool true)) (Operand.tmp 43)) 4 (v := ?_) ⟨_, rfl, rfl, rfl, rfl, rfl⟩ (by kernel_rfl) (by kernel_rfl) (by kernel_rfl) (by kernel_rfl) (fun _ _ _ h => h) (fun _ => hS) (fun w' => ?_) ?_
        rotate_left
        · unfold bareOp
          go_simp
          try with_reducible rfl
        simp only [Act.put, List.setIfInBounds_toArray, List.set_cons_zero, List.set_cons_succ]
        refine wpAnyB_takeP (i := 23) (some 45) (Op.move (Operand.tmp 44)) 4 (v := ?_) ⟨_, rfl, rfl, rfl, rfl, rfl⟩ (by kernel_rfl) (by kernel_rfl) (by kernel_rfl) (by kernel_rfl) (fun _ _ _ h => h) (fun _ => hS) (fun w' => ?_) ?_
        rotate_left
        · unfold bareOp
          go_simp
          try with_reducible rfl
        simp only [Act.put, List.setIfInBounds_toArray, List.set_cons_zero, List.set_cons_succ]
        refine wpAnyB_skip (i := 24) (some 46) (Op.fieldAddr 27 (Operand.tmp 6) 0) 0 (some (23, false)) ⟨_, rfl, rfl, rfl, rfl, rfl⟩ rfl (by kernel_rfl) (by kernel_rfl) (by kernel_rfl) (by kernel_rfl) (fun _ _ _ h => h) (fun _ => hS) ?_
        simp only [Act.put, List.setIfInBounds_toArray, List.set_cons_zero, List.set_cons_succ]
        refine wpAnyB_skip (i := 25) (some 47) (Op.load 25 (Operand.tmp 46)) 25 (some (23, false)) ⟨_, rfl, rfl, rfl, rfl, rfl⟩ rfl (by kernel_rfl) (by kernel_rfl) (by kernel_rfl) (by kernel_rfl) (fun _ _ _ h => h) (fun _ => hS) ?_
        simp only [Act.put, List.setIfInBounds_toArray, List.set_cons_zero, List.set_cons_succ]
        refine wpAnyB_skip (i := 26) (some 48) (Op.call { callee := Callee.builtin Builtin.len, args := #[Operand.tmp 47], argTypes := #[25] }) 3 (some (23, false)) ⟨_, rfl, rfl, rfl, rfl, rfl⟩ rfl (by kernel_rfl) (by kernel_rfl) (by kernel_rfl) (by kernel_rfl) (fun _ _ _ h => h) (fun _ => hS) ?_
        simp only [Act.put, List.setIfInBounds_toArray, List.set_cons_zero, List.set_cons_succ]
        refine wpAnyB_skip (i := 27) (some 49) (Op.move (Operand.tmp 1)) 33 (some (23, false)) ⟨_, rfl, rfl, rfl, rfl, rfl⟩ rfl (by kernel_rfl) (by kernel_rfl) (by kernel_rfl) (by kernel_rfl) (fun _ _ _ h => h) (fun _ => hS) ?_
        simp only [Act.put, List.setIfInBounds_toArray, List.set_cons_zero, List.set_cons_succ]
        refine wpAnyB_skip (i := 28) (some 50) (Op.indexAddr 33 (Operand.tmp 49) (Operand.const (Value.int IntKind.i64 0))) 0 (some (23, false)) ⟨_, rfl, rfl, rfl, rfl, rfl⟩ rfl (by kernel_rfl) (by kernel_rfl) (by kernel_rfl) (by kernel_rfl) (fun _ _ _ h => h) (fun _ => hS) ?_
        simp only [Act.put, List.setIfInBounds_toArray, List.set_cons_zero, List.set_cons_succ]
        refine wpAnyB_skip (i := 29) (some 51) (Op.fieldAddr 27 (Operand.tmp 50) 0) 0 (some (23, false)) ⟨_, rfl, rfl, rfl, rfl, rfl⟩ rfl (by kernel_rfl) (by kernel_rfl) (by kernel_rfl) (by kernel_rfl) (fun _ _ _ h => h) (fun _ => hS) ?_
        simp only [Act.put, List.setIfInBounds_toArray, List.set_cons_zero, List.set_cons_succ]
        refine wpAnyB_skip (i := 30) (some 52) (Op.load 25 (Operand.tmp 51)) 25 (some (23, false)) ⟨_, rfl, rfl, rfl, rfl, rfl⟩ rfl (by kernel_rfl) (by kernel_rfl) (by kernel_rfl) (by kernel_rfl) (fun _ _ _ h => h) (fun _ => hS) ?_
        simp only [Act.put, List.setIfInBounds_toArray, List.set_cons_zero, List.set_cons_succ]
        refine wpAnyB_skip (i := 31) (some 53) (Op.call { callee := Callee.builtin Builtin.len, args := #[Operand.tmp 52], argTypes := #[25] }) 3 (some (23, false)) ⟨_, rfl, rfl, rfl, rfl, rfl⟩ rfl (by kernel_rfl) (by kernel_rfl) (by kernel_rfl) (by kernel_rfl) (fun _ _ _ h => h) (fun _ => hS) ?_
        simp only [Act.put, List.setIfInBounds_toArray, List.set_cons_zero, List.set_cons_succ]
        refine wpAnyB_skip (i := 32) (some 54) (Op.binOp BinOp.neq 3 (Operand.tmp 48) (Operand.tmp 53) 3) 4 (some (23, false)) ⟨_, rfl, rfl, rfl, rfl, rfl⟩ rfl (by kernel_rfl) (by kernel_rfl) (by kernel_rfl) (by kernel_rfl) (fun _ _ _ h => h) (fun _ => hS) ?_
        simp only [Act.put, List.setIfInBounds_toArray, List.set_cons_zero, List.set_cons_succ]
        refine wpAnyB_takeP (i := 33) (some 55) (Op.pick (Operand.tmp 45) (Operand.const (Value.bool true)) (Operand.tmp 54)) 4 (v := ?_) ⟨_, rfl, rfl, rfl, rfl, rfl⟩ (by kernel_rfl) (by kernel_rfl) (by kernel_rfl) (by kernel_rfl) (fun _ _ _ h => h) (fun _ => hS) (fun w' => ?_) ?_
        rotate_left
        · unfold bareOp
          go_simp
          try with_reducible rfl
        simp only [Act.put, List.setIfInBounds_toArray, List.set_cons_zero, List.set_cons_succ]
        refine wpAnyB_takeP (i := 34) (some 56) (Op.move (Operand.tmp 55)) 4 (v := ?_) ⟨_, rfl, rfl, rfl, rfl, rfl⟩ (by kernel_rfl) (by kernel_rfl) (by kernel_rfl) (by kernel_rfl) (fun _ _ _ h => h) (fun _ => hS) (fun w' => ?_) ?_
        rotate_left
        · unfold bareOp
          go_simp
          try with_reducible rfl
        simp only [Act.put, List.setIfInBounds_toArray, List.set_cons_zero, List.set_cons_succ]
        refine wpAnyB_skip (i := 35) (some 57) (Op.fieldAddr 27 (Operand.tmp 6) 1) 0 (some (34, false)) ⟨_, rfl, rfl, rfl, rfl, rfl⟩ rfl (by kernel_rfl) (by kernel_rfl) (by kernel_rfl) (by kernel_rfl) (fun _ _ _ h => h) (fun _ => hS) ?_
        simp only [Act.put, List.setIfInBounds_toArray, List.set_cons_zero, List.set_cons_succ]
        refine wpAnyB_skip (i := 36) (some 58) (Op.load 25 (Operand.tmp 57)) 25 (some (34, false)) ⟨_, rfl, rfl, rfl, rfl, rfl⟩ rfl (by kernel_rfl) (by kernel_rfl) (by kernel_rfl) (by kernel_rfl) (fun _ _ _ h => h) (fun _ => hS) ?_
        simp only [Act.put, List.setIfInBounds_toArray, List.set_cons_zero, List.set_cons_succ]
        refine wpAnyB_skip (i := 37) (some 59) (Op.call { callee := Callee.builtin Builtin.len, args := #[Operand.tmp 58], argTypes := #[25] }) 3 (some (34, false)) ⟨_, rfl, rfl, rfl, rfl, rfl⟩ rfl (by kernel_rfl) (by kernel_rfl) (by kernel_rfl) (by kernel_rfl) (fun _ _ _ h => h) (fun _ => hS) ?_
        simp only [Act.put, List.setIfInBounds_toArray, List.set_cons_zero, List.set_cons_succ]
        refine wpAnyB_skip (i := 38) (some 60) (Op.move (Operand.tmp 1)) 33 (some (34, false)) ⟨_, rfl, rfl, rfl, rfl, rfl⟩ rfl (by kernel_rfl) (by kernel_rfl) (by kernel_rfl) (by kernel_rfl) (fun _ _ _ h => h) (fun _ => hS) ?_
        simp only [Act.put, List.setIfInBounds_toArray, List.set_cons_zero, List.set_cons_succ]
        refine wpAnyB_skip (i := 39) (some 61) (Op.indexAddr 33 (Operand.tmp 60) (Operand.const (Value.int IntKind.i64 0))) 0 (some (34, false)) ⟨_, rfl, rfl, rfl, rfl, rfl⟩ rfl (by kernel_rfl) (by kernel_rfl) (by kernel_rfl) (by kernel_rfl) (fun _ _ _ h => h) (fun _ => hS) ?_
        simp only [Act.put, List.setIfInBounds_toArray, List.set_cons_zero, List.set_cons_succ]
        refine wpAnyB_skip (i := 40) (some 62) (Op.fieldAddr 27 (Operand.tmp 61) 1) 0 (some (34, false)) ⟨_, rfl, rfl, rfl, rfl, rfl⟩ rfl (by kernel_rfl) (by kernel_rfl) (by kernel_rfl) (by kernel_rfl) (fun _ _ _ h => h) (fun _ => hS) ?_
        simp only [Act.put, List.setIfInBounds_toArray, List.set_cons_zero, List.set_cons_succ]
        refine wpAnyB_skip (i := 41) (some 63) (Op.load 25 (Operand.tmp 62)) 25 (some (34, false)) ⟨_, rfl, rfl, rfl, rfl, rfl⟩ rfl (by kernel_rfl) (by kernel_rfl) (by kernel_rfl) (by kernel_rfl) (fun _ _ _ h => h) (fun _ => hS) ?_
        simp only [Act.put, List.setIfInBounds_toArray, List.set_cons_zero, List.set_cons_succ]
        refine wpAnyB_skip (i := 42) (some 64) (Op.call { callee := Callee.builtin Builtin.len, args := #[Operand.tmp 63], argTypes := #[25] }) 3 (some (34, false)) ⟨_, rfl, rfl, rfl, rfl, rfl⟩ rfl (by kernel_rfl) (by kernel_rfl) (by kernel_rfl) (by kernel_rfl) (fun _ _ _ h => h) (fun _ => hS) ?_
        simp only [Act.put, List.setIfInBounds_toArray, List.set_cons_zero, List.set_cons_succ]
        refine wpAnyB_skip (i := 43) (some 65) (Op.binOp BinOp.neq 3 (Operand.tmp 59) (Operand.tmp 64) 3) 4 (some (34, false)) ⟨_, rfl, rfl, rfl, rfl, rfl⟩ rfl (by kernel_rfl) (by kernel_rfl) (by kernel_rfl) (by kernel_rfl) (fun _ _ _ h => h) (fun _ => hS) ?_
        simp only [Act.put, List.setIfInBounds_toArray, List.set_cons_zero, List.set_cons_succ]
        refine wpAnyB_only (i := 44) (some 66) (Op.pick (Operand.tmp 56) (Operand.const (Value.bool true)) (Operand.tmp 65)) 4 ⟨_, rfl, rfl, rfl, rfl, rfl⟩ (by kernel_rfl) (fun K hK => ?_)
        unfold bareOp
        go_wp2_with fail
        refine hK.out _ _ (fun h => absurd (h.symm.trans (by kernel_rfl : _ = true)) (by decide)) ?_
        clear hK K
        try simp only [Act.put, List.setIfInBounds_toArray, List.set_cons_zero, List.set_cons_succ]
        refine wpAnyB_done (by kernel_rfl) ?_ _
        clear hS
        go_wp2_with fail
        go_ret
        exact ⟨by rw [HZ.out]; rfl, HBW.out⟩
      | true =>
        have HB1 := Lib.hid hb1
        clear hb1
        cases hb2 : belowS Q D.ys with
        | false =>
          have HB2 := Lib.hid hb2
          clear hb2
          have HZ := Lib.hid (show mallS P Q E l = false by
            rw [mallS, List.all_eq_false]
            exact ⟨D, HDM.out, by simp [fitsS, HB2.out]⟩)
          replace F_g := Lib.hid F_g.out.drew
          replace F_d := Lib.hid F_d.out.drew
          replace HBW := Lib.hid HBW.out.drew
          have hS := And.intro F_g.out.s (And.intro F_d.out.c0 (And.intro F_d.out.c1 (And.intro ((HBW.out.cell (p := ⟨s, o, none⟩) hs).trans HE0.out) ((HBW.out.cell (p := ⟨s, o + 1, none⟩) hs).trans HE1.out))))
          refine wp_region_stage 44 (fun w' => SBox w' w.heap.size P Q G ∧ w'.cell? ⟨wo.heap.size, 0, none⟩ = some (.slice D.a D.n D.c) ∧ w'.cell? ⟨wo.heap.size, 1, none⟩ = some (.slice D.b D.m D.d) ∧ w'.cell? ⟨s, o, none⟩ = some (.slice E.a E.n E.c) ∧ w'.cell? ⟨s, o + 1, none⟩ = some (.slice E.b E.m E.d)) (by kernel_rfl) ?_
          refine wpAnyB_takeP (i := 0) (some 22) (Op.fieldAddr 27 (Operand.tmp 6) 0) 0 (v := ?_) ⟨_, rfl, rfl, rfl, rfl, rfl⟩ (by kernel_rfl) (by kernel_rfl) (by kernel_rfl) (by kernel_rfl) (fun _ _ _ h => h) (fun _ => hS) (fun w' => ?_) ?_
          rotate_left
          · unfold bareOp
            go_simp
            try with_reducible rfl
          simp only [Act.put, List.setIfInBounds_toArray, List.set_cons_zero, List.set_cons_succ]
          refine wpAnyB_take (i := 1) (some 23) (Op.load 25 (Operand.tmp 22)) 25 (v := ?_) ⟨_, rfl, rfl, rfl, rfl, rfl⟩ (by kernel_rfl) (by kernel_rfl) (by kernel_rfl) [4, 5, 6, 7, 8, 9, 10, 11, 12, 13, 14, 15, 16, 17, 18, 19, 20, 21, 22, 23, 24, 25, 26, 27, 28, 29, 30, 31, 32, 33, 34, 35, 36, 37, 38, 39, 40, 41, 42, 43, 44] (by kernel_rfl) (fun _ _ _ h => h) hS (fun w' hSw => ?_) ?_
          rotate_left
          · obtain ⟨⟨b0, b1, b2⟩, b3, b4, b5, b6⟩ := hSw
            unfold bareOp
            go_simp
            try with_reducible rfl
          simp only [Act.put, List.setIfInBounds_toArray, List.set_cons_zero, List.set_cons_succ]
          refine wpAnyB_takeP (i := 2) (some 24) (Op.fieldAddr 24 (Operand.tmp 2) 0) 0 (v := ?_) ⟨_, rfl, rfl, rfl, rfl, rfl⟩ (by kernel_rfl) (by kernel_rfl) (by kernel_rfl) (by kernel_rfl) (fun _ _ _ h => h) (fun _ => hS) (fun w' => ?_) ?_
          rotate_left
          · unfold bareOp
            go_simp
            try with_reducible rfl
          simp only [Act.put, List.setIfInBounds_toArray, List.set_cons_zero, List.set_cons_succ]
          refine wpAnyB_take (i := 3) (some 25) (Op.load 22 (Operand.tmp 24)) 22 (v := ?_) ⟨_, rfl, rfl, rfl, rfl, rfl⟩ (by kernel_rfl) (by kernel_rfl) (by kernel_rfl) [4, 5, 6, 7, 8, 9, 10, 11, 12, 13, 14, 15, 16, 17, 18, 19, 20, 21, 22, 23, 24, 25, 26, 27, 28, 29, 30, 31, 32, 33, 34, 35, 36, 37, 38, 39, 40, 41, 42, 43, 44] (by kernel_rfl) (fun _ _ _ h => h) hS (fun w' hSw => ?_) ?_
          rotate_left
          · obtain ⟨⟨b0, b1, b2⟩, b3, b4, b5, b6⟩ := hSw
            unfold bareOp
            go_simp
            try with_reducible rfl
          simp only [Act.put, List.setIfInBounds_toArray, List.set_cons_zero, List.set_cons_succ]
          refine wpAnyB_only (i := 4) (some 26) (Op.call { callee := Callee.value (Operand.func 60), args := #[Operand.tmp 23, Operand.tmp 25], argTypes := #[25, 22] }) 4 ⟨_, rfl, rfl, rfl, rfl, rfl⟩ (by kernel_rfl) (fun K hK => ?_)
          unfold bareOp
          go_wp2_with (go_at_call 60; refine (rbelow_any _ (HDI.out.h1.keep HBW.out) HDI.out.n1 HB1.out).mono ?_; rintro e w8 ⟨rfl, rfl⟩)
          refine hK.out _ _ (fun _ => hS) ?_
          clear hK K
          try simp only [Act.put, List.setIfInBounds_toArray, List.set_cons_zero, List.set_cons_succ]
          refine wpAnyB_takeP (i := 5) (some 27) (Op.unOp UnOp.not 4 (Operand.tmp 26)) 4 (v := ?_) ⟨_, rfl, rfl, rfl, rfl, rfl⟩ (by kernel_rfl) (by kernel_rfl) (by kernel_rfl) (by kernel_rfl) (fun _ _ _ h => h) (fun _ => hS) (fun w' => ?_) ?_
          rotate_left
          · unfold bareOp
            go_simp
            try with_reducible rfl
          simp only [Act.put, List.setIfInBounds_toArray, List.set_cons_zero, List.set_cons_succ]
          refine wpAnyB_takeP (i := 6) (some 28) (Op.move (Operand.tmp 27)) 4 (v := ?_) ⟨_, rfl, rfl, rfl, rfl, rfl⟩ (by kernel_rfl) (by kernel_rfl) (by kernel_rfl) (by kernel_rfl) (fun _ _ _ h => h) (fun _ => hS) (fun w' => ?_) ?_
          rotate_left
          · unfold bareOp
            go_simp
            try with_reducible rfl
          simp only [Act.put, List.setIfInBounds_toArray, List.set_cons_zero, List.set_cons_succ]
          refine wpAnyB_takePG (i := 7) (some 29) (Op.fieldAddr 27 (Operand.tmp 6) 1) 0 (some (6, false)) (v := ?_) ⟨_, rfl, rfl, rfl, rfl, rfl⟩ rfl (by kernel_rfl) (by kernel_rfl) (by kernel_rfl) (by kernel_rfl) (fun _ _ _ h => h) (fun _ => hS) (fun w' => ?_) ?_
          rotate_left
          · unfold bareOp
            go_simp
            try with_reducible rfl
          simp only [Act.put, List.setIfInBounds_toArray, List.set_cons_zero, List.set_cons_succ]
          refine wpAnyB_takeG (i := 8) (some 30) (Op.load 25 (Operand.tmp 29)) 25 (some (6, false)) (v := ?_) ⟨_, rfl, rfl, rfl, rfl, rfl⟩ rfl (by kernel_rfl) (by kernel_rfl) (by kernel_rfl) [11, 12, 13, 14, 15, 16, 17, 18, 19, 20, 21, 22, 23, 24, 25, 26, 27, 28, 29, 30, 31, 32, 33, 34, 35, 36, 37, 38, 39, 40, 41, 42, 43, 44] (by kernel_rfl) (fun _ _ _ h => h) hS (fun w' hSw => ?_) ?_
          rotate_left
          · obtain ⟨⟨b0, b1, b2⟩, b3, b4, b5, b6⟩ := hSw
            unfold bareOp
            go_simp
            try with_reducible rfl
          simp only [Act.put, List.setIfInBounds_toArray, List.set_cons_zero, List.set_cons_succ]
          refine wpAnyB_takePG (i := 9) (some 31) (Op.fieldAddr 24 (Operand.tmp 2) 1) 0 (some (6, false)) (v := ?_) ⟨_, rfl, rfl, rfl, rfl, rfl⟩ rfl (by kernel_rfl) (by kernel_rfl) (by kernel_rfl) (by kernel_rfl) (fun _ _ _ h => h) (fun _ => hS) (fun w' => ?_) ?_
          rotate_left
          · unfold bareOp
            go_simp
            try with_reducible rfl
          simp only [Act.put, List.setIfInBounds_toArray, List.set_cons_zero, List.set_cons_succ]
          refine wpAnyB_takeG (i := 10) (some 32) (Op.load 22 (Operand.tmp 31)) 22 (some (6, false)) (v := ?_) ⟨_, rfl, rfl, rfl, rfl, rfl⟩ rfl (by kernel_rfl) (by kernel_rfl) (by kernel_rfl) [11, 12, 13, 14, 15, 16, 17, 18, 19, 20, 21, 22, 23, 24, 25, 26, 27, 28, 29, 30, 31, 32, 33, 34, 35, 36, 37, 38, 39, 40, 41, 42, 43, 44] (by kernel_rfl) (fun _ _ _ h => h) hS (fun w' hSw => ?_) ?_
          rotate_left
          · obtain ⟨⟨b0, b1, b2⟩, b3, b4, b5, b6⟩ := hSw
            unfold bareOp
            go_simp
            try with_reducible rfl
          simp only [Act.put, List.setIfInBounds_toArray, List.set_cons_zero, List.set_cons_succ]
          refine wpAnyB_onlyG (i := 11) (some 33) (Op.call { callee := Callee.value (Operand.func 60), args := #[Operand.tmp 30, Operand.tmp 32], argTypes := #[25, 22] }) 4 (some (6, false)) ⟨_, rfl, rfl, rfl, rfl, rfl⟩ (by kernel_rfl) rfl (fun K hK => ?_)
          unfold bareOp
          go_wp2_with (go_at_call 60; refine (rbelow_any _ (HDI.out.h2.keep HBW.out) HDI.out.n2 HB2.out).mono ?_; rintro e w8 ⟨rfl, rfl⟩)
          refine hK.out _ _ (fun _ => hS) ?_
          clear hK K
          try simp only [Act.put, List.setIfInBounds_toArray, List.set_cons_zero, List.set_cons_succ]
          refine wpAnyB_takePG (i := 12) (some 34) (Op.unOp UnOp.not 4 (Operand.tmp 33)) 4 (some (6, false)) (v := ?_) ⟨_, rfl, rfl, rfl, rfl, rfl⟩ rfl (by kernel_rfl) (by kernel_rfl) (by kernel_rfl) (by kernel_rfl) (fun _ _ _ h => h) (fun _ => hS) (fun w' => ?_) ?_
          rotate_left
          · unfold bareOp
            go_simp
            try with_reducible rfl
          simp only [Act.put, List.setIfInBounds_toArray, List.set_cons_zero, List.set_cons_succ]
          refine wpAnyB_takeP (i := 13) (some 35) (Op.pick (Operand.tmp 28) (Operand.const (Value.bool true)) (Operand.tmp 34)) 4 (v := ?_) ⟨_, rfl, rfl, rfl, rfl, rfl⟩ (by kernel_rfl) (by kernel_rfl) (by kernel_rfl) (by kernel_rfl) (fun _ _ _ h => h) (fun _ => hS) (fun w' => ?_) ?_
          rotate_left
          · unfold bareOp
            go_simp
            try with_reducible rfl
          simp only [Act.put, List.setIfInBounds_toArray, List.set_cons_zero, List.set_cons_succ]
          refine wpAnyB_takeP (i := 14) (some 36) (Op.move (Operand.tmp 35)) 4 (v := ?_) ⟨_, rfl, rfl, rfl, rfl, rfl⟩ (by kernel_rfl) (by kernel_rfl) (by kernel_rfl) (by kernel_rfl) (fun _ _ _ h => h) (fun _ => hS) (fun w' => ?_) ?_
          rotate_left
          · unfold bareOp
            go_simp
            try with_reducible rfl
          simp only [Act.put, List.setIfInBounds_toArray, List.set_cons_zero, List.set_cons_succ]
          refine wpAnyB_skip (i := 15) (some 37) (Op.fieldAddr 27 (Operand.tmp 6) 1) 0 (some (14, false)) ⟨_, rfl, rfl, rfl, rfl, rfl⟩ rfl (by kernel_rfl) (by kernel_rfl) (by kernel_rfl) (by kernel_rfl) (fun _ _ _ h => h) (fun _ => hS) ?_
          simp only [Act.put, List.setIfInBounds_toArray, List.set_cons_zero, List.set_cons_succ]
          refine wpAnyB_skip (i := 16) (some 38) (Op.load 25 (Operand.tmp 37)) 25 (some (14, false)) ⟨_, rfl, rfl, rfl, rfl, rfl⟩ rfl (by kernel_rfl) (by kernel_rfl) (by kernel_rfl) (by kernel_rfl) (fun _ _ _ h => h) (fun _ => hS) ?_
          simp only [Act.put, List.setIfInBounds_toArray, List.set_cons_zero, List.set_cons_succ]
          refine wpAnyB_skip (i := 17) (some 39) (Op.call { callee := Callee.builtin Builtin.len, args := #[Operand.tmp 38], argTypes := #[25] }) 3 (some (14, false)) ⟨_, rfl, rfl, rfl, rfl, rfl⟩ rfl (by kernel_rfl) (by kernel_rfl) (by kernel_rfl) (by kernel_rfl) (fun _ _ _ h => h) (fun _ => hS) ?_
          simp only [Act.put, List.setIfInBounds_toArray, List.set_cons_zero, List.set_cons_succ]
          refine wpAnyB_skip (i := 18) (some 40) (Op.fieldAddr 27 (Operand.tmp 6) 0) 0 (some (14, false)) ⟨_, rfl, rfl, rfl, rfl, rfl⟩ rfl (by kernel_rfl) (by kernel_rfl) (by kernel_rfl) (by kernel_rfl) (fun _ _ _ h => h) (fun _ => hS) ?_
          simp only [Act.put, List.setIfInBounds_toArray, List.set_cons_zero, List.set_cons_succ]
          refine wpAnyB_skip (i := 19) (some 41) (Op.load 25 (Operand.tmp 40)) 25 (some (14, false)) ⟨_, rfl, rfl, rfl, rfl, rfl⟩ rfl (by kernel_rfl) (by kernel_rfl) (by kernel_rfl) (by kernel_rfl) (fun _ _ _ h => h) (fun _ => hS) ?_
          simp only [Act.put, List.setIfInBounds_toArray, List.set_cons_zero, List.set_cons_succ]
          refine wpAnyB_skip (i := 20) (some 42) (Op.call { callee := Callee.builtin Builtin.len, args := #[Operand.tmp 41], argTypes := #[25] }) 3 (some (14, false)) ⟨_, rfl, rfl, rfl, rfl, rfl⟩ rfl (by kernel_rfl) (by kernel_rfl) (by kernel_rfl) (by kernel_rfl) (fun _ _ _ h => h) (fun _ => hS) ?_
          simp only [Act.put, List.setIfInBounds_toArray, List.set_cons_zero, List.set_cons_succ]
          refine wpAnyB_skip (i := 21) (some 43) (Op.binOp BinOp.lss 3 (Operand.tmp 39) (Operand.tmp 42) 3) 4 (some (14, false)) ⟨_, rfl, rfl, rfl, rfl, rfl⟩ rfl (by kernel_rfl) (by kernel_rfl) (by kernel_rfl) (by kernel_rfl) (fun _ _ _ h => h) (fun _ => hS) ?_
          simp only [Act.put, List.setIfInBounds_toArray, List.set_cons_zero, List.set_cons_succ]
          refine wpAnyB_takeP (i := 22) (some 44) (Op.pick (Operand.tmp 36) (Operand.const (Value.bool true)) (Operand.tmp 43)) 4 (v := ?_) ⟨_, rfl, rfl, rfl, rfl, rfl⟩ (by kernel_rfl) (by kernel_rfl) (by kernel_rfl) (by kernel_rfl) (fun _ _ _ h => h) (fun _ => hS) (fun w' => ?_) ?_
          rotate_left
          · unfold bareOp
            go_simp
            try with_reducible rfl
          simp only [Act.put, List.setIfInBounds_toArray, List.set_cons_zero, List.set_cons_succ]
          refine wpAnyB_takeP (i := 23) (some 45) (Op.move (Operand.tmp 44)) 4 (v := ?_) ⟨_, rfl, rfl, rfl, rfl, rfl⟩ (by kernel_rfl) (by kernel_rfl) (by kernel_rfl) (by kernel_rfl) (fun _ _ _ h => h) (fun _ => hS) (fun w' => ?_) ?_
          rotate_left
          · unfold bareOp
            go_simp
            try with_reducible rfl
          simp only [Act.put, List.setIfInBounds_toArray, List.set_cons_zero, List.set_cons_succ]
          refine wpAnyB_skip (i := 24) (some 46) (Op.fieldAddr 27 (Operand.tmp 6) 0) 0 (some (23, false)) ⟨_, rfl, rfl, rfl, rfl, rfl⟩ rfl (by kernel_rfl) (by kernel_rfl) (by kernel_rfl) (by kernel_rfl) (fun _ _ _ h => h) (fun _ => hS) ?_
          simp only [Act.put, List.setIfInBounds_toArray, List.set_cons_zero, List.set_cons_succ]
          refine wpAnyB_skip (i := 25) (some 47) (Op.load 25 (Operand.tmp 46)) 25 (some (23, false)) ⟨_, rfl, rfl, rfl, rfl, rfl⟩ rfl (by kernel_rfl) (by kernel_rfl) (by kernel_rfl) (by kernel_rfl) (fun _ _ _ h => h) (fun _ => hS) ?_
          simp only [Act.put, List.setIfInBounds_toArray, List.set_cons_zero, List.set_cons_succ]
          refine wpAnyB_skip (i := 26) (some 48) (Op.call { callee := Callee.builtin Builtin.len, args := #[Operand.tmp 47], argTypes := #[25] }) 3 (some (23, false)) ⟨_, rfl, rfl, rfl, rfl, rfl⟩ rfl (by kernel_rfl) (by kernel_rfl) (by kernel_rfl) (by kernel_rfl) (fun _ _ _ h => h) (fun _ => hS) ?_
          simp only [Act.put, List.setIfInBounds_toArray, List.set_cons_zero, List.set_cons_succ]
          refine wpAnyB_skip (i := 27) (some 49) (Op.move (Operand.tmp 1)) 33 (some (23, false)) ⟨_, rfl, rfl, rfl, rfl, rfl⟩ rfl (by kernel_rfl) (by kernel_rfl) (by kernel_rfl) (by kernel_rfl) (fun _ _ _ h => h) (fun _ => hS) ?_
          simp only [Act.put, List.setIfInBounds_toArray, List.set_cons_zero, List.set_cons_succ]
          refine wpAnyB_skip (i := 28) (some 50) (Op.indexAddr 33 (Operand.tmp 49) (Operand.const (Value.int IntKind.i64 0))) 0 (some (23, false)) ⟨_, rfl, rfl, rfl, rfl, rfl⟩ rfl (by kernel_rfl) (by kernel_rfl) (by kernel_rfl) (by kernel_rfl) (fun _ _ _ h => h) (fun _ => hS) ?_
          simp only [Act.put, List.setIfInBounds_toArray, List.set_cons_zero, List.set_cons_succ]
          refine wpAnyB_skip (i := 29) (some 51) (Op.fieldAddr 27 (Operand.tmp 50) 0) 0 (some (23, false)) ⟨_, rfl, rfl, rfl, rfl, rfl⟩ rfl (by kernel_rfl) (by kernel_rfl) (by kernel_rfl) (by kernel_rfl) (fun _ _ _ h => h) (fun _ => hS) ?_
          simp only [Act.put, List.setIfInBounds_toArray, List.set_cons_zero, List.set_cons_succ]
          refine wpAnyB_skip (i := 30) (some 52) (Op.load 25 (Operand.tmp 51)) 25 (some (23, false)) ⟨_, rfl, rfl, rfl, rfl, rfl⟩ rfl (by kernel_rfl) (by kernel_rfl) (by kernel_rfl) (by kernel_rfl) (fun _ _ _ h => h) (fun _ => hS) ?_
          simp only [Act.put, List.setIfInBounds_toArray, List.set_cons_zero, List.set_cons_succ]
          refine wpAnyB_skip (i := 31) (some 53) (Op.call { callee := Callee.builtin Builtin.len, args := #[Operand.tmp 52], argTypes := #[25] }) 3 (some (23, false)) ⟨_, rfl, rfl, rfl, rfl, rfl⟩ rfl (by kernel_rfl) (by kernel_rfl) (by kernel_rfl) (by kernel_rfl) (fun _ _ _ h => h) (fun _ => hS) ?_
          simp only [Act.put, List.setIfInBounds_toArray, List.set_cons_zero, List.set_cons_succ]
          refine wpAnyB_skip (i := 32) (some 54) (Op.binOp BinOp.neq 3 (Operand.tmp 48) (Operand.tmp 53) 3) 4 (some (23, false)) ⟨_, rfl, rfl, rfl, rfl, rfl⟩ rfl (by kernel_rfl) (by kernel_rfl) (by kernel_rfl) (by kernel_rfl) (fun _ _ _ h => h) (fun _ => hS) ?_
          simp only [Act.put, List.setIfInBounds_toArray, List.set_cons_zero, List.set_cons_succ]
          refine wpAnyB_takeP (i := 33) (some 55) (Op.pick (Operand.tmp 45) (Operand.const (Value.bool true)) (Operand.tmp 54)) 4 (v := ?_) ⟨_, rfl, rfl, rfl, rfl, rfl⟩ (by kernel_rfl) (by kernel_rfl) (by kernel_rfl) (by kernel_rfl) (fun _ _ _ h => h) (fun _ => hS) (fun w' => ?_) ?_
          rotate_left
          · unfold bareOp
            go_simp
            try with_reducible rfl
          simp only [Act.put, List.setIfInBounds_toArray, List.set_cons_zero, List.set_cons_succ]
          refine wpAnyB_takeP (i := 34) (some 56) (Op.move (Operand.tmp 55)) 4 (v := ?_) ⟨_, rfl, rfl, rfl, rfl, rfl⟩ (by kernel_rfl) (by kernel_rfl) (by kernel_rfl) (by kernel_rfl) (fun _ _ _ h => h) (fun _ => hS) (fun w' => ?_) ?_
          rotate_left
          · unfold bareOp
            go_simp
            try with_reducible rfl
          simp only [Act.put, List.setIfInBounds_toArray, List.set_cons_zero, List.set_cons_succ]
          refine wpAnyB_skip (i := 35) (some 57) (Op.fieldAddr 27 (Operand.tmp 6) 1) 0 (some (34, false)) ⟨_, rfl, rfl, rfl, rfl, rfl⟩ rfl (by kernel_rfl) (by kernel_rfl) (by kernel_rfl) (by kernel_rfl) (fun _ _ _ h => h) (fun _ => hS) ?_
          simp only [Act.put, List.setIfInBounds_toArray, List.set_cons_zero, List.set_cons_succ]
          refine wpAnyB_skip (i := 36) (some 58) (Op.load 25 (Operand.tmp 57)) 25 (some (34, false)) ⟨_, rfl, rfl, rfl, rfl, rfl⟩ rfl (by kernel_rfl) (by kernel_rfl) (by kernel_rfl) (by kernel_rfl) (fun _ _ _ h => h) (fun _ => hS) ?_
          simp only [Act.put, List.setIfInBounds_toArray, List.set_cons_zero, List.set_cons_succ]
          refine wpAnyB_skip (i := 37) (some 59) (Op.call { callee := Callee.builtin Builtin.len, args := #[Operand.tmp 58], argTypes := #[25] }) 3 (some (34, false)) ⟨_, rfl, rfl, rfl, rfl, rfl⟩ rfl (by kernel_rfl) (by kernel_rfl) (by kernel_rfl) (by kernel_rfl) (fun _ _ _ h => h) (fun _ => hS) ?_
          simp only [Act.put, List.setIfInBounds_toArray, List.set_cons_zero, List.set_cons_succ]
          refine wpAnyB_skip (i := 38) (some 60) (Op.move (Operand.tmp 1)) 33 (some (34, false)) ⟨_, rfl, rfl, rfl, rfl, rfl⟩ rfl (by kernel_rfl) (by kernel_rfl) (by kernel_rfl) (by kernel_rfl) (fun _ _ _ h => h) (fun _ => hS) ?_
          simp only [Act.put, List.setIfInBounds_toArray, List.set_cons_zero, List.set_cons_succ]
          refine wpAnyB_skip (i := 39) (some 61) (Op.indexAddr 33 (Operand.tmp 60) (Operand.const (Value.int IntKind.i64 0))) 0 (some (34, false)) ⟨_, rfl, rfl, rfl, rfl, rfl⟩ rfl (by kernel_rfl) (by kernel_rfl) (by kernel_rfl) (by kernel_rfl) (fun _ _ _ h => h) (fun _ => hS) ?_
          simp only [Act.put, List.setIfInBounds_toArray, List.set_cons_zero, List.set_cons_succ]
          refine wpAnyB_skip (i := 40) (some 62) (Op.fieldAddr 27 (Operand.tmp 61) 1) 0 (some (34, false)) ⟨_, rfl, rfl, rfl, rfl, rfl⟩ rfl (by kernel_rfl) (by kernel_rfl) (by kernel_rfl) (by kernel_rfl) (fun _ _ _ h => h) (fun _ => hS) ?_
          simp only [Act.put, List.setIfInBounds_toArray, List.set_cons_zero, List.set_cons_succ]
          refine wpAnyB_skip (i := 41) (some 63) (Op.load 25 (Operand.tmp 62)) 25 (some (34, false)) ⟨_, rfl, rfl, rfl, rfl, rfl⟩ rfl (by kernel_rfl) (by kernel_rfl) (by kernel_rfl) (by kernel_rfl) (fun _ _ _ h => h) (fun _ => hS) ?_
          simp only [Act.put, List.setIfInBounds_toArray, List.set_cons_zero, List.set_cons_succ]
          refine wpAnyB_skip (i := 42) (some 64) (Op.call { callee := Callee.builtin Builtin.len, args := #[Operand.tmp 63], argTypes := #[25] }) 3 (some (34, false)) ⟨_, rfl, rfl, rfl, rfl, rfl⟩ rfl (by kernel_rfl) (by kernel_rfl) (by kernel_rfl) (by kernel_rfl) (fun _ _ _ h => h) (fun _ => hS) ?_
          simp only [Act.put, List.setIfInBounds_toArray, List.set_cons_zero, List.set_cons_succ]
          refine wpAnyB_skip (i := 43) (some 65) (Op.binOp BinOp.neq 3 (Operand.tmp 59) (Operand.tmp 64) 3) 4 (some (34, false)) ⟨_, rfl, rfl, rfl, rfl, rfl⟩ rfl (by kernel_rfl) (by kernel_rfl) (by kernel_rfl) (by kernel_rfl) (fun _ _ _ h => h) (fun _ => hS) ?_
          simp only [Act.put, List.setIfInBounds_toArray, List.set_cons_zero, List.set_cons_succ]
          refine wpAnyB_only (i := 44) (some 66) (Op.pick (Operand.tmp 56) (Operand.const (Value.bool true)) (Operand.tmp 65)) 4 ⟨_, rfl, rfl, rfl, rfl, rfl⟩ (by kernel_rfl) (fun K hK => ?_)
          unfold bareOp
          go_wp2_with fail
          refine hK.out _ _ (fun h => absurd (h.symm.trans (by kernel_rfl : _ = true)) (by decide)) ?_
          clear hK K
          try simp only [Act.put, List.setIfInBounds_toArray, List.set_cons_zero, List.set_cons_succ]
          refine wpAnyB_done (by kernel_rfl) ?_ _
          clear hS
          go_wp2_with fail
          go_ret
          exact ⟨by rw [HZ.out]; rfl, HBW.out⟩
        | true =>
          have HB2 := Lib.hid hb2
          clear hb2
          by_cases k1 : D.m < D.n
          case pos =>
            have e1 : decide ((D.m : Int) < (D.n : Int)) = true := by simp; omega
            have HF := Lib.hid (show ¬ D.xs.length ≤ D.ys.length by rw [← HN1.out, ← HN2.out]; omega)
            have HZ := Lib.hid (show mallS P Q E l = false by
              rw [mallS, List.all_eq_false]
              exact ⟨D, HDM.out, by simp [fitsS, HF.out]⟩)
            replace F_g := Lib.hid F_g.out.drew
            replace F_d := Lib.hid F_d.out.drew
            replace HBW := Lib.hid HBW.out.drew
            have hS := And.intro F_g.out.s (And.intro F_d.out.c0 (And.intro F_d.out.c1 (And.intro ((HBW.out.cell (p := ⟨s, o, none⟩) hs).trans HE0.out) ((HBW.out.cell (p := ⟨s, o + 1, none⟩) hs).trans HE1.out))))
            refine wp_region_stage 44 (fun w' => SBox w' w.heap.size P Q G ∧ w'.cell? ⟨wo.heap.size, 0, none⟩ = some (.slice D.a D.n D.c) ∧ w'.cell? ⟨wo.heap.size, 1, none⟩ = some (.slice D.b D.m D.d) ∧ w'.cell? ⟨s, o, none⟩ = some (.slice E.a E.n E.c) ∧ w'.cell? ⟨s, o + 1, none⟩ = some (.slice E.b E.m E.d)) (by kernel_rfl) ?_
            refine wpAnyB_takeP (i := 0) (some 22) (Op.fieldAddr 27 (Operand.tmp 6) 0) 0 (v := ?_) ⟨_, rfl, rfl, rfl, rfl, rfl⟩ (by kernel_rfl) (by kernel_rfl) (by kernel_rfl) (by kernel_rfl) (fun _ _ _ h => h) (fun _ => hS) (fun w' => ?_) ?_
            rotate_left
            · unfold bareOp
              go_simp
              try with_reducible rfl
            simp only [Act.put, List.setIfInBounds_toArray, List.set_cons_zero, List.set_cons_succ]
            refine wpAnyB_take (i := 1) (some 23) (Op.load 25 (Operand.tmp 22)) 25 (v := ?_) ⟨_, rfl, rfl, rfl, rfl, rfl⟩ (by kernel_rfl) (by kernel_rfl) (by kernel_rfl) [4, 5, 6, 7, 8, 9, 10, 11, 12, 13, 14, 15, 16, 17, 18, 19, 20, 21, 22, 23, 24, 25, 26, 27, 28, 29, 30, 31, 32, 33, 34, 35, 36, 37, 38, 39, 40, 41, 42, 43, 44] (by kernel_rfl) (fun _ _ _ h => h) hS (fun w' hSw => ?_) ?_
            rotate_left
            · obtain ⟨⟨b0, b1, b2⟩, b3, b4, b5, b6⟩ := hSw
              unfold bareOp
              go_simp
              try with_reducible rfl
            simp only [Act.put, List.setIfInBounds_toArray, List.set_cons_zero, List.set_cons_succ]
            refine wpAnyB_takeP (i := 2) (some 24) (Op.fieldAddr 24 (Operand.tmp 2) 0) 0 (v := ?_) ⟨_, rfl, rfl, rfl, rfl, rfl⟩ (by kernel_rfl) (by kernel_rfl) (by kernel_rfl) (by kernel_rfl) (fun _ _ _ h => h) (fun _ => hS) (fun w' => ?_) ?_
            rotate_left
            · unfold bareOp
              go_simp
              try with_reducible rfl
            simp only [Act.put, List.setIfInBounds_toArray, List.set_cons_zero, List.set_cons_succ]
            refine wpAnyB_take (i := 3) (some 25) (Op.load 22 (Operand.tmp 24)) 22 (v := ?_) ⟨_, rfl, rfl, rfl, rfl, rfl⟩ (by kernel_rfl) (by kernel_rfl) (by kernel_rfl) [4, 5, 6, 7, 8, 9, 10, 11, 12, 13, 14, 15, 16, 17, 18, 19, 20, 21, 22, 23, 24, 25, 26, 27, 28, 29, 30, 31, 32, 33, 34, 35, 36, 37, 38, 39, 40, 41, 42, 43, 44] (by kernel_rfl) (fun _ _ _ h => h) hS (fun w' hSw => ?_) ?_
            rotate_left
            · obtain ⟨⟨b0, b1, b2⟩, b3, b4, b5, b6⟩ := hSw
              unfold bareOp
              go_simp
              try with_reducible rfl
            simp only [Act.put, List.setIfInBounds_toArray, List.set_cons_zero, List.set_cons_succ]
            refine wpAnyB_only (i := 4) (some 26) (Op.call { callee := Callee.value (Operand.func 60), args := #[Operand.tmp 23, Operand.tmp 25], argTypes := #[25, 22] }) 4 ⟨_, rfl, rfl, rfl, rfl, rfl⟩ (by kernel_rfl) (fun K hK => ?_)
            unfold bareOp
            go_wp2_with (go_at_call 60; refine (rbelow_any _ (HDI.out.h1.keep HBW.out) HDI.out.n1 HB1.out).mono ?_; rintro e w8 ⟨rfl, rfl⟩)
            refine hK.out _ _ (fun _ => hS) ?_
            clear hK K
            try simp only [Act.put, List.setIfInBounds_toArray, List.set_cons_zero, List.set_cons_succ]
            refine wpAnyB_takeP (i := 5) (some 27) (Op.unOp UnOp.not 4 (Operand.tmp 26)) 4 (v := ?_) ⟨_, rfl, rfl, rfl, rfl, rfl⟩ (by kernel_rfl) (by kernel_rfl) (by kernel_rfl) (by kernel_rfl) (fun _ _ _ h => h) (fun _ => hS) (fun w' => ?_) ?_
            rotate_left
            · unfold bareOp
              go_simp
              try with_reducible rfl
            simp only [Act.put, List.setIfInBounds_toArray, List.set_cons_zero, List.set_cons_succ]
            refine wpAnyB_takeP (i := 6) (some 28) (Op.move (Operand.tmp 27)) 4 (v := ?_) ⟨_, rfl, rfl, rfl, rfl, rfl⟩ (by kernel_rfl) (by kernel_rfl) (by kernel_rfl) (by kernel_rfl) (fun _ _ _ h => h) (fun _ => hS) (fun w' => ?_) ?_
            rotate_left
            · unfold bareOp
              go_simp
              try with_reducible rfl
            simp only [Act.put, List.setIfInBounds_toArray, List.set_cons_zero, List.set_cons_succ]
            refine wpAnyB_takePG (i := 7) (some 29) (Op.fieldAddr 27 (Operand.tmp 6) 1) 0 (some (6, false)) (v := ?_) ⟨_, rfl, rfl, rfl, rfl, rfl⟩ rfl (by kernel_rfl) (by kernel_rfl) (by kernel_rfl) (by kernel_rfl) (fun _ _ _ h => h) (fun _ => hS) (fun w' => ?_) ?_
            rotate_left
            · unfold bareOp
              go_simp
              try with_reducible rfl
            simp only [Act.put, List.setIfInBounds_toArray, List.set_cons_zero, List.set_cons_succ]
            refine wpAnyB_takeG (i := 8) (some 30) (Op.load 25 (Operand.tmp 29)) 25 (some (6, false)) (v := ?_) ⟨_, rfl, rfl, rfl, rfl, rfl⟩ rfl (by kernel_rfl) (by kernel_rfl) (by kernel_rfl) [11, 12, 13, 14, 15, 16, 17, 18, 19, 20, 21, 22, 23, 24, 25, 26, 27, 28, 29, 30, 31, 32, 33, 34, 35, 36, 37, 38, 39, 40, 41, 42, 43, 44] (by kernel_rfl) (fun _ _ _ h => h) hS (fun w' hSw => ?_) ?_
            rotate_left
            · obtain ⟨⟨b0, b1, b2⟩, b3, b4, b5, b6⟩ := hSw
              unfold bareOp
              go_simp
              try with_reducible rfl
            simp only [Act.put, List.setIfInBounds_toArray, List.set_cons_zero, List.set_cons_succ]
            refine wpAnyB_takePG (i := 9) (some 31) (Op.fieldAddr 24 (Operand.tmp 2) 1) 0 (some (6, false)) (v := ?_) ⟨_, rfl, rfl, rfl, rfl, rfl⟩ rfl (by kernel_rfl) (by kernel_rfl) (by kernel_rfl) (by kernel_rfl) (fun _ _ _ h => h) (fun _ => hS) (fun w' => ?_) ?_
            rotate_left
            · unfold bareOp
              go_simp
              try with_reducible rfl
            simp only [Act.put, List.setIfInBounds_toArray, List.set_cons_zero, List.set_cons_succ]
            refine wpAnyB_takeG (i := 10) (some 32) (Op.load 22 (Operand.tmp 31)) 22 (some (6, false)) (v := ?_) ⟨_, rfl, rfl, rfl, rfl, rfl⟩ rfl (by kernel_rfl) (by kernel_rfl) (by kernel_rfl) [11, 12, 13, 14, 15, 16, 17, 18, 19, 20, 21, 22, 23, 24, 25, 26, 27, 28, 29, 30, 31, 32, 33, 34, 35, 36, 37, 38, 39, 40, 41, 42, 43, 44] (by kernel_rfl) (fun _ _ _ h => h) hS (fun w' hSw => ?_) ?_
            rotate_left
            · obtain ⟨⟨b0, b1, b2⟩, b3, b4, b5, b6⟩ := hSw
              unfold bareOp
              go_simp
              try with_reducible rfl
            simp only [Act.put, List.setIfInBounds_toArray, List.set_cons_zero, List.set_cons_succ]
            refine wpAnyB_onlyG (i := 11) (some 33) (Op.call { callee := Callee.value (Operand.func 60), args := #[Operand.tmp 30, Operand.tmp 32], argTypes := #[25, 22] }) 4 (some (6, false)) ⟨_, rfl, rfl, rfl, rfl, rfl⟩ (by kernel_rfl) rfl (fun K hK => ?_)
            unfold bareOp
            go_wp2_with (go_at_call 60; refine (rbelow_any _ (HDI.out.h2.keep HBW.out) HDI.out.n2 HB2.out).mono ?_; rintro e w8 ⟨rfl, rfl⟩)
            refine hK.out _ _ (fun _ => hS) ?_
            clear hK K
            try simp only [Act.put, List.setIfInBounds_toArray, List.set_cons_zero, List.set_cons_succ]
            refine wpAnyB_takePG (i := 12) (some 34) (Op.unOp UnOp.not 4 (Operand.tmp 33)) 4 (some (6, false)) (v := ?_) ⟨_, rfl, rfl, rfl, rfl, rfl⟩ rfl (by kernel_rfl) (by kernel_rfl) (by kernel_rfl) (by kernel_rfl) (fun _ _ _ h => h) (fun _ => hS) (fun w' => ?_) ?_
            rotate_left
            · unfold bareOp
              go_simp
              try with_reducible rfl
            simp only [Act.put, List.setIfInBounds_toArray, List.set_cons_zero, List.set_cons_succ]
            refine wpAnyB_takeP (i := 13) (some 35) (Op.pick (Operand.tmp 28) (Operand.const (Value.bool true)) (Operand.tmp 34)) 4 (v := ?_) ⟨_, rfl, rfl, rfl, rfl, rfl⟩ (by kernel_rfl) (by kernel_rfl) (by kernel_rfl) (by kernel_rfl) (fun _ _ _ h => h) (fun _ => hS) (fun w' => ?_) ?_
            rotate_left
            · unfold bareOp
              go_simp
              try with_reducible rfl
            simp only [Act.put, List.setIfInBounds_toArray, List.set_cons_zero, List.set_cons_succ]
            refine wpAnyB_takeP (i := 14) (some 36) (Op.move (Operand.tmp 35)) 4 (v := ?_) ⟨_, rfl, rfl, rfl, rfl, rfl⟩ (by kernel_rfl) (by kernel_rfl) (by kernel_rfl) (by kernel_rfl) (fun _ _ _ h => h) (fun _ => hS) (fun w' => ?_) ?_
            rotate_left
            · unfold bareOp
              go_simp
              try with_reducible rfl
            simp only [Act.put, List.setIfInBounds_toArray, List.set_cons_zero, List.set_cons_succ]
            refine wpAnyB_takePG (i := 15) (some 37) (Op.fieldAddr 27 (Operand.tmp 6) 1) 0 (some (14, false)) (v := ?_) ⟨_, rfl, rfl, rfl, rfl, rfl⟩ rfl (by kernel_rfl) (by kernel_rfl) (by kernel_rfl) (by kernel_rfl) (fun _ _ _ h => h) (fun _ => hS) (fun w' => ?_) ?_
            rotate_left
            · unfold bareOp
              go_simp
              try with_reducible rfl
            simp only [Act.put, List.setIfInBounds_toArray, List.set_cons_zero, List.set_cons_succ]
            refine wpAnyB_takeG (i := 16) (some 38) (Op.load 25 (Operand.tmp 37)) 25 (some (14, false)) (v := ?_) ⟨_, rfl, rfl, rfl, rfl, rfl⟩ rfl (by kernel_rfl) (by kernel_rfl) (by kernel_rfl) [17, 21, 22, 23, 24, 25, 26, 27, 28, 29, 30, 31, 32, 33, 34, 35, 36, 37, 38, 39, 40, 41, 42, 43, 44] (by kernel_rfl) (fun _ _ _ h => h) hS (fun w' hSw => ?_) ?_
            rotate_left
            · obtain ⟨⟨b0, b1, b2⟩, b3, b4, b5, b6⟩ := hSw
              unfold bareOp
              go_simp
              try with_reducible rfl
            simp only [Act.put, List.setIfInBounds_toArray, List.set_cons_zero, List.set_cons_succ]
            refine wpAnyB_takePG (i := 17) (some 39) (Op.call { callee := Callee.builtin Builtin.len, args := #[Operand.tmp 38], argTypes := #[25] }) 3 (some (14, false)) (v := ?_) ⟨_, rfl, rfl, rfl, rfl, rfl⟩ rfl (by kernel_rfl) (by kernel_rfl) (by kernel_rfl) (by kernel_rfl) (fun _ _ _ h => h) (fun _ => hS) (fun w' => ?_) ?_
            rotate_left
            · unfold bareOp
              go_simp
              try with_reducible rfl
            simp only [Act.put, List.setIfInBounds_toArray, List.set_cons_zero, List.set_cons_succ]
            refine wpAnyB_takePG (i := 18) (some 40) (Op.fieldAddr 27 (Operand.tmp 6) 0) 0 (some (14, false)) (v := ?_) ⟨_, rfl, rfl, rfl, rfl, rfl⟩ rfl (by kernel_rfl) (by kernel_rfl) (by kernel_rfl) (by kernel_rfl) (fun _ _ _ h => h) (fun _ => hS) (fun w' => ?_) ?_
            rotate_left
            · unfold bareOp
              go_simp
              try with_reducible rfl
            simp only [Act.put, List.setIfInBounds_toArray, List.set_cons_zero, List.set_cons_succ]
            refine wpAnyB_takeG (i := 19) (some 41) (Op.load 25 (Operand.tmp 40)) 25 (some (14, false)) (v := ?_) ⟨_, rfl, rfl, rfl, rfl, rfl⟩ rfl (by kernel_rfl) (by kernel_rfl) (by kernel_rfl) [20, 21, 22, 23, 24, 25, 26, 27, 28, 29, 30, 31, 32, 33, 34, 35, 36, 37, 38, 39, 40, 41, 42, 43, 44] (by kernel_rfl) (fun _ _ _ h => h) hS (fun w' hSw => ?_) ?_
            rotate_left
            · obtain ⟨⟨b0, b1, b2⟩, b3, b4, b5, b6⟩ := hSw
              unfold bareOp
              go_simp
              try with_reducible rfl
            simp only [Act.put, List.setIfInBounds_toArray, List.set_cons_zero, List.set_cons_succ]
            refine wpAnyB_takePG (i := 20) (some 42) (Op.call { callee := Callee.builtin Builtin.len, args := #[Operand.tmp 41], argTypes := #[25] }) 3 (some (14, false)) (v := ?_) ⟨_, rfl, rfl, rfl, rfl, rfl⟩ rfl (by kernel_rfl) (by kernel_rfl) (by kernel_rfl) (by kernel_rfl) (fun _ _ _ h => h) (fun _ => hS) (fun w' => ?_) ?_
            rotate_left
            · unfold bareOp
              go_simp
              try with_reducible rfl
            simp only [Act.put, List.setIfInBounds_toArray, List.set_cons_zero, List.set_cons_succ]
            refine wpAnyB_takePG (i := 21) (some 43) (Op.binOp BinOp.lss 3 (Operand.tmp 39) (Operand.tmp 42) 3) 4 (some (14, false)) (v := ?_) ⟨_, rfl, rfl, rfl, rfl, rfl⟩ rfl (by kernel_rfl) (by kernel_rfl) (by kernel_rfl) (by kernel_rfl) (fun _ _ _ h => h) (fun _ => hS) (fun w' => ?_) ?_
            rotate_left
            · unfold bareOp
              go_simp
              try with_reducible rfl
            simp only [Act.put, List.setIfInBounds_toArray, List.set_cons_zero, List.set_cons_succ]
            refine wpAnyB_takeP (i := 22) (some 44) (Op.pick (Operand.tmp 36) (Operand.const (Value.bool true)) (Operand.tmp 43)) 4 (v := ?_) ⟨_, rfl, rfl, rfl, rfl, rfl⟩ (by kernel_rfl) (by kernel_rfl) (by kernel_rfl) (by kernel_rfl) (fun _ _ _ h => h) (fun _ => hS) (fun w' => ?_) ?_
            rotate_left
            · unfold bareOp
              go_simp
              try with_reducible rfl
            simp only [Act.put, List.setIfInBounds_toArray, List.set_cons_zero, List.set_cons_succ]
            refine wpAnyB_takeP (i := 23) (some 45) (Op.move (Operand.tmp 44)) 4 (v := ?_) ⟨_, rfl, rfl, rfl, rfl, rfl⟩ (by kernel_rfl) (by kernel_rfl) (by kernel_rfl) (by kernel_rfl) (fun _ _ _ h => h) (fun _ => hS) (fun w' => ?_) ?_
            rotate_left
            · unfold bareOp
              go_simp
              try with_reducible rfl
            simp only [Act.put, List.setIfInBounds_toArray, List.set_cons_zero, List.set_cons_succ]
            refine wpAnyB_skip (i := 24) (some 46) (Op.fieldAddr 27 (Operand.tmp 6) 0) 0 (some (23, false)) ⟨_, rfl, rfl, rfl, rfl, rfl⟩ rfl (by kernel_rfl) (by kernel_rfl) (by kernel_rfl) (by kernel_rfl) (fun _ _ _ h => h) (fun _ => hS) ?_
            simp only [Act.put, List.setIfInBounds_toArray, List.set_cons_zero, List.set_cons_succ]
            refine wpAnyB_skip (i := 25) (some 47) (Op.load 25 (Operand.tmp 46)) 25 (some (23, false)) ⟨_, rfl, rfl, rfl, rfl, rfl⟩ rfl (by kernel_rfl) (by kernel_rfl) (by kernel_rfl) (by kernel_rfl) (fun _ _ _ h => h) (fun _ => hS) ?_
            simp only [Act.put, List.setIfInBounds_toArray, List.set_cons_zero, List.set_cons_succ]
            refine wpAnyB_skip (i := 26) (some 48) (Op.call { callee := Callee.builtin Builtin.len, args := #[Operand.tmp 47], argTypes := #[25] }) 3 (some (23, false)) ⟨_, rfl, rfl, rfl, rfl, rfl⟩ rfl (by kernel_rfl) (by kernel_rfl) (by kernel_rfl) (by kernel_rfl) (fun _ _ _ h => h) (fun _ => hS) ?_
            simp only [Act.put, List.setIfInBounds_toArray, List.set_cons_zero, List.set_cons_succ]
            refine wpAnyB_skip (i := 27) (some 49) (Op.move (Operand.tmp 1)) 33 (some (23, false)) ⟨_, rfl, rfl, rfl, rfl, rfl⟩ rfl (by kernel_rfl) (by kernel_rfl) (by kernel_rfl) (by kernel_rfl) (fun _ _ _ h => h) (fun _ => hS) ?_
            simp only [Act.put, List.setIfInBounds_toArray, List.set_cons_zero, List.set_cons_succ]
            refine wpAnyB_skip (i := 28) (some 50) (Op.indexAddr 33 (Operand.tmp 49) (Operand.const (Value.int IntKind.i64 0))) 0 (some (23, false)) ⟨_, rfl, rfl, rfl, rfl, rfl⟩ rfl (by kernel_rfl) (by kernel_rfl) (by kernel_rfl) (by kernel_rfl) (fun _ _ _ h => h) (fun _ => hS) ?_
            simp only [Act.put, List.setIfInBounds_toArray, List.set_cons_zero, List.set_cons_succ]
            refine wpAnyB_skip (i := 29) (some 51) (Op.fieldAddr 27 (Operand.tmp 50) 0) 0 (some (23, false)) ⟨_, rfl, rfl, rfl, rfl, rfl⟩ rfl (by kernel_rfl) (by kernel_rfl) (by kernel_rfl) (by kernel_rfl) (fun _ _ _ h => h) (fun _ => hS) ?_
            simp only [Act.put, List.setIfInBounds_toArray, List.set_cons_zero, List.set_cons_succ]
            refine wpAnyB_skip (i := 30) (some 52) (Op.load 25 (Operand.tmp 51)) 25 (some (23, false)) ⟨_, rfl, rfl, rfl, rfl, rfl⟩ rfl (by kernel_rfl) (by kernel_rfl) (by kernel_rfl) (by kernel_rfl) (fun _ _ _ h => h) (fun _ => hS) ?_
            simp only [Act.put, List.setIfInBounds_toArray, List.set_cons_zero, List.set_cons_succ]
            refine wpAnyB_skip (i := 31) (some 53) (Op.call { callee := Callee.builtin Builtin.len, args := #[Operand.tmp 52], argTypes := #[25] }) 3 (some (23, false)) ⟨_, rfl, rfl, rfl, rfl, rfl⟩ rfl (by kernel_rfl) (by kernel_rfl) (by kernel_rfl) (by kernel_rfl) (fun _ _ _ h => h) (fun _ => hS) ?_
            simp only [Act.put, List.setIfInBounds_toArray, List.set_cons_zero, List.set_cons_succ]
            refine wpAnyB_skip (i := 32) (some 54) (Op.binOp BinOp.neq 3 (Operand.tmp 48) (Operand.tmp 53) 3) 4 (some (23, false)) ⟨_, rfl, rfl, rfl, rfl, rfl⟩ rfl (by kernel_rfl) (by kernel_rfl) (by kernel_rfl) (by kernel_rfl) (fun _ _ _ h => h) (fun _ => hS) ?_
            simp only [Act.put, List.setIfInBounds_toArray, List.set_cons_zero, List.set_cons_succ]
            refine wpAnyB_takeP (i := 33) (some 55) (Op.pick (Operand.tmp 45) (Operand.const (Value.bool true)) (Operand.tmp 54)) 4 (v := ?_) ⟨_, rfl, rfl, rfl, rfl, rfl⟩ (by kernel_rfl) (by kernel_rfl) (by kernel_rfl) (by kernel_rfl) (fun _ _ _ h => h) (fun _ => hS) (fun w' => ?_) ?_
            rotate_left
            · unfold bareOp
              go_simp
              try with_reducible rfl
            simp only [Act.put, List.setIfInBounds_toArray, List.set_cons_zero, List.set_cons_succ]
            refine wpAnyB_takeP (i := 34) (some 56) (Op.move (Operand.tmp 55)) 4 (v := ?_) ⟨_, rfl, rfl, rfl, rfl, rfl⟩ (by kernel_rfl) (by kernel_rfl) (by kernel_rfl) (by kernel_rfl) (fun _ _ _ h => h) (fun _ => hS) (fun w' => ?_) ?_
            rotate_left
            · unfold bareOp
              go_simp
              try with_reducible rfl
            simp only [Act.put, List.setIfInBounds_toArray, List.set_cons_zero, List.set_cons_succ]
            refine wpAnyB_skip (i := 35) (some 57) (Op.fieldAddr 27 (Operand.tmp 6) 1) 0 (some (34, false)) ⟨_, rfl, rfl, rfl, rfl, rfl⟩ rfl (by kernel_rfl) (by kernel_rfl) (by kernel_rfl) (by kernel_rfl) (fun _ _ _ h => h) (fun _ => hS) ?_
            simp only [Act.put, List.setIfInBounds_toArray, List.set_cons_zero, List.set_cons_succ]
            refine wpAnyB_skip (i := 36) (some 58) (Op.load 25 (Operand.tmp 57)) 25 (some (34, false)) ⟨_, rfl, rfl, rfl, rfl, rfl⟩ rfl (by kernel_rfl) (by kernel_rfl) (by kernel_rfl) (by kernel_rfl) (fun _ _ _ h => h) (fun _ => hS) ?_
            simp only [Act.put, List.setIfInBounds_toArray, List.set_cons_zero, List.set_cons_succ]
            refine wpAnyB_skip (i := 37) (some 59) (Op.call { callee := Callee.builtin Builtin.len, args := #[Operand.tmp 58], argTypes := #[25] }) 3 (some (34, false)) ⟨_, rfl, rfl, rfl, rfl, rfl⟩ rfl (by kernel_rfl) (by kernel_rfl) (by kernel_rfl) (by kernel_rfl) (fun _ _ _ h => h) (fun _ => hS) ?_
            simp only [Act.put, List.setIfInBounds_toArray, List.set_cons_zero, List.set_cons_succ]
            refine wpAnyB_skip (i := 38) (some 60) (Op.move (Operand.tmp 1)) 33 (some (34, false)) ⟨_, rfl, rfl, rfl, rfl, rfl⟩ rfl (by kernel_rfl) (by kernel_rfl) (by kernel_rfl) (by kernel_rfl) (fun _ _ _ h => h) (fun _ => hS) ?_
            simp only [Act.put, List.setIfInBounds_toArray, List.set_cons_zero, List.set_cons_succ]
            refine wpAnyB_skip (i := 39) (some 61) (Op.indexAddr 33 (Operand.tmp 60) (Operand.const (Value.int IntKind.i64 0))) 0 (some (34, false)) ⟨_, rfl, rfl, rfl, rfl, rfl⟩ rfl (by kernel_rfl) (by kernel_rfl) (by kernel_rfl) (by kernel_rfl) (fun _ _ _ h => h) (fun _ => hS) ?_
            simp only [Act.put, List.setIfInBounds_toArray, List.set_cons_zero, List.set_cons_succ]
            refine wpAnyB_skip (i := 40) (some 62) (Op.fieldAddr 27 (Operand.tmp 61) 1) 0 (some (34, false)) ⟨_, rfl, rfl, rfl, rfl, rfl⟩ rfl (by kernel_rfl) (by kernel_rfl) (by kernel_rfl) (by kernel_rfl) (fun _ _ _ h => h) (fun _ => hS) ?_
            simp only [Act.put, List.setIfInBounds_toArray, List.set_cons_zero, List.set_cons_succ]
            refine wpAnyB_skip (i := 41) (some 63) (Op.load 25 (Operand.tmp 62)) 25 (some (34, false)) ⟨_, rfl, rfl, rfl, rfl, rfl⟩ rfl (by kernel_rfl) (by kernel_rfl) (by kernel_rfl) (by kernel_rfl) (fun _ _ _ h => h) (fun _ => hS) ?_
            simp only [Act.put, List.setIfInBounds_toArray, List.set_cons_zero, List.set_cons_succ]
            refine wpAnyB_skip (i := 42) (some 64) (Op.call { callee := Callee.builtin Builtin.len, args := #[Operand.tmp 63], argTypes := #[25] }) 3 (some (34, false)) ⟨_, rfl, rfl, rfl, rfl, rfl⟩ rfl (by kernel_rfl) (by kernel_rfl) (by kernel_rfl) (by kernel_rfl) (fun _ _ _ h => h) (fun _ => hS) ?_
            simp only [Act.put, List.setIfInBounds_toArray, List.set_cons_zero, List.set_cons_succ]
            refine wpAnyB_skip (i := 43) (some 65) (Op.binOp BinOp.neq 3 (Operand.tmp 59) (Operand.tmp 64) 3) 4 (some (34, false)) ⟨_, rfl, rfl, rfl, rfl, rfl⟩ rfl (by kernel_rfl) (by kernel_rfl) (by kernel_rfl) (by kernel_rfl) (fun _ _ _ h => h) (fun _ => hS) ?_
            simp only [Act.put, List.setIfInBounds_toArray, List.set_cons_zero, List.set_cons_succ]
            refine wpAnyB_only (i := 44) (some 66) (Op.pick (Operand.tmp 56) (Operand.const (Value.bool true)) (Operand.tmp 65)) 4 ⟨_, rfl, rfl, rfl, rfl, rfl⟩ (by kernel_rfl) (fun K hK => ?_)
            unfold bareOp
            go_wp2_with fail
            refine hK.out _ _ (fun h => absurd (h.symm.trans (by kernel_rfl : _ = true)) (by decide)) ?_
            clear hK K
            try simp only [Act.put, List.setIfInBounds_toArray, List.set_cons_zero, List.set_cons_succ]
            refine wpAnyB_done (by kernel_rfl) ?_ _
            clear hS
            go_wp2_with fail
            go_ret
            exact ⟨by rw [HZ.out]; rfl, HBW.out⟩
          case neg =>
            have e1 : decide ((D.m : Int) < (D.n : Int)) = false := by simp; omega
            have e1n : decide (D.m < D.n) = false := by simpa using k1
            by_cases k2 : D.n = E.n
            case neg =>
              have e2 : ((D.n : Int) != (E.n : Int)) = true := by simp; omega
              have e2n : (D.n != E.n) = true := by simpa using k2
              have HF := Lib.hid (show ¬ D.xs.length = E.xs.length by rw [← HN1.out, ← HM1.out]; exact k2)
              clear k2
              have HZ := Lib.hid (show mallS P Q E l = false by
                rw [mallS, List.all_eq_false]
                exact ⟨D, HDM.out, by simp [fitsS, HF.out]⟩)
              replace F_g := Lib.hid F_g.out.drew
              replace F_d := Lib.hid F_d.out.drew
              replace HBW := Lib.hid HBW.out.drew
              have hS := And.intro F_g.out.s (And.intro F_d.out.c0 (And.intro F_d.out.c1 (And.intro ((HBW.out.cell (p := ⟨s, o, none⟩) hs).trans HE0.out) ((HBW.out.cell (p := ⟨s, o + 1, none⟩) hs).trans HE1.out))))
              refine wp_region_stage 44 (fun w' => SBox w' w.heap.size P Q G ∧ w'.cell? ⟨wo.heap.size, 0, none⟩ = some (.slice D.a D.n D.c) ∧ w'.cell? ⟨wo.heap.size, 1, none⟩ = some (.slice D.b D.m D.d) ∧ w'.cell? ⟨s, o, none⟩ = some (.slice E.a E.n E.c) ∧ w'.cell? ⟨s, o + 1, none⟩ = some (.slice E.b E.m E.d)) (by kernel_rfl) ?_
              refine wpAnyB_takeP (i := 0) (some 22) (Op.fieldAddr 27 (Operand.tmp 6) 0) 0 (v := ?_) ⟨_, rfl, rfl, rfl, rfl, rfl⟩ (by kernel_rfl) (by kernel_rfl) (by kernel_rfl) (by kernel_rfl) (fun _ _ _ h => h) (fun _ => hS) (fun w' => ?_) ?_
              rotate_left
              · unfold bareOp
                go_simp
                try with_reducible rfl
              simp only [Act.put, List.setIfInBounds_toArray, List.set_cons_zero, List.set_cons_succ]
              refine wpAnyB_take (i := 1) (some 23) (Op.load 25 (Operand.tmp 22)) 25 (v := ?_) ⟨_, rfl, rfl, rfl, rfl, rfl⟩ (by kernel_rfl) (by kernel_rfl) (by kernel_rfl) [4, 5, 6, 7, 8, 9, 10, 11, 12, 13, 14, 15, 16, 17, 18, 19, 20, 21, 22, 23, 24, 25, 26, 27, 28, 29, 30, 31, 32, 33, 34, 35, 36, 37, 38, 39, 40, 41, 42, 43, 44] (by kernel_rfl) (fun _ _ _ h => h) hS (fun w' hSw => ?_) ?_
              rotate_left
              · obtain ⟨⟨b0, b1, b2⟩, b3, b4, b5, b6⟩ := hSw
                unfold bareOp
                go_simp
                try with_reducible rfl
              simp only [Act.put, List.setIfInBounds_toArray, List.set_cons_zero, List.set_cons_succ]
              refine wpAnyB_takeP (i := 2) (some 24) (Op.fieldAddr 24 (Operand.tmp 2) 0) 0 (v := ?_) ⟨_, rfl, rfl, rfl, rfl, rfl⟩ (by kernel_rfl) (by kernel_rfl) (by kernel_rfl) (by kernel_rfl) (fun _ _ _ h => h) (fun _ => hS) (fun w' => ?_) ?_
              rotate_left
              · unfold bareOp
                go_simp
                try with_reducible rfl
              simp only [Act.put, List.setIfInBounds_toArray, List.set_cons_zero, List.set_cons_succ]
              refine wpAnyB_take (i := 3) (some 25) (Op.load 22 (Operand.tmp 24)) 22 (v := ?_) ⟨_, rfl, rfl, rfl, rfl, rfl⟩ (by kernel_rfl) (by kernel_rfl) (by kernel_rfl) [4, 5, 6, 7, 8, 9, 10, 11, 12, 13, 14, 15, 16, 17, 18, 19, 20, 21, 22, 23, 24, 25, 26, 27, 28, 29, 30, 31, 32, 33, 34, 35, 36, 37, 38, 39, 40, 41, 42, 43, 44] (by kernel_rfl) (fun _ _ _ h => h) hS (fun w' hSw => ?_) ?_
              rotate_left
              · obtain ⟨⟨b0, b1, b2⟩, b3, b4, b5, b6⟩ := hSw
                unfold bareOp
                go_simp
                try with_reducible rfl
              simp only [Act.put, List.setIfInBounds_toArray, List.set_cons_zero, List.set_cons_succ]
              refine wpAnyB_only (i := 4) (some 26) (Op.call { callee := Callee.value (Operand.func 60), args := #[Operand.tmp 23, Operand.tmp 25], argTypes := #[25, 22] }) 4 ⟨_, rfl, rfl, rfl, rfl, rfl⟩ (by kernel_rfl) (fun K hK => ?_)
              unfold bareOp
              go_wp2_with (go_at_call 60; refine (rbelow_any _ (HDI.out.h1.keep HBW.out) HDI.out.n1 HB1.out).mono ?_; rintro e w8 ⟨rfl, rfl⟩)
              refine hK.out _ _ (fun _ => hS) ?_
              clear hK K
              try simp only [Act.put, List.setIfInBounds_toArray, List.set_cons_zero, List.set_cons_succ]
              refine wpAnyB_takeP (i := 5) (some 27) (Op.unOp UnOp.not 4 (Operand.tmp 26)) 4 (v := ?_) ⟨_, rfl, rfl, rfl, rfl, rfl⟩ (by kernel_rfl) (by kernel_rfl) (by kernel_rfl) (by kernel_rfl) (fun _ _ _ h => h) (fun _ => hS) (fun w' => ?_) ?_
              rotate_left
              · unfold bareOp
                go_simp
                try with_reducible rfl
              simp only [Act.put, List.setIfInBounds_toArray, List.set_cons_zero, List.set_cons_succ]
              refine wpAnyB_takeP (i := 6) (some 28) (Op.move (Operand.tmp 27)) 4 (v := ?_) ⟨_, rfl, rfl, rfl, rfl, rfl⟩ (by kernel_rfl) (by kernel_rfl) (by kernel_rfl) (by kernel_rfl) (fun _ _ _ h => h) (fun _ => hS) (fun w' => ?_) ?_
              rotate_left
              · unfold bareOp
                go_simp
                try with_reducible rfl
              simp only [Act.put, List.setIfInBounds_toArray, List.set_cons_zero, List.set_cons_succ]
              refine wpAnyB_takePG (i := 7) (some 29) (Op.fieldAddr 27 (Operand.tmp 6) 1) 0 (some (6, false)) (v := ?_) ⟨_, rfl, rfl, rfl, rfl, rfl⟩ rfl (by kernel_rfl) (by kernel_rfl) (by kernel_rfl) (by kernel_rfl) (fun _ _ _ h => h) (fun _ => hS) (fun w' => ?_) ?_
              rotate_left
              · unfold bareOp
                go_simp
                try with_reducible rfl
              simp only [Act.put, List.setIfInBounds_toArray, List.set_cons_zero, List.set_cons_succ]
              refine wpAnyB_takeG (i := 8) (some 30) (Op.load 25 (Operand.tmp 29)) 25 (some (6, false)) (v := ?_) ⟨_, rfl, rfl, rfl, rfl, rfl⟩ rfl (by kernel_rfl) (by kernel_rfl) (by kernel_rfl) [11, 12, 13, 14, 15, 16, 17, 18, 19, 20, 21, 22, 23, 24, 25, 26, 27, 28, 29, 30, 31, 32, 33, 34, 35, 36, 37, 38, 39, 40, 41, 42, 43, 44] (by kernel_rfl) (fun _ _ _ h => h) hS (fun w' hSw => ?_) ?_
              rotate_left
              · obtain ⟨⟨b0, b1, b2⟩, b3, b4, b5, b6⟩ := hSw
                unfold bareOp
                go_simp
                try with_reducible rfl
              simp only [Act.put, List.setIfInBounds_toArray, List.set_cons_zero, List.set_cons_succ]
              refine wpAnyB_takePG (i := 9) (some 31) (Op.fieldAddr 24 (Operand.tmp 2) 1) 0 (some (6, false)) (v := ?_) ⟨_, rfl, rfl, rfl, rfl, rfl⟩ rfl (by kernel_rfl) (by kernel_rfl) (by kernel_rfl) (by kernel_rfl) (fun _ _ _ h => h) (fun _ => hS) (fun w' => ?_) ?_
              rotate_left
              · unfold bareOp
                go_simp
                try with_reducible rfl
              simp only [Act.put, List.setIfInBounds_toArray, List.set_cons_zero, List.set_cons_succ]
              refine wpAnyB_takeG (i := 10) (some 32) (Op.load 22 (Operand.tmp 31)) 22 (some (6, false)) (v := ?_) ⟨_, rfl, rfl, rfl, rfl, rfl⟩ rfl (by kernel_rfl) (by kernel_rfl) (by kernel_rfl) [11, 12, 13, 14, 15, 16, 17, 18, 19, 20, 21, 22, 23, 24, 25, 26, 27, 28, 29, 30, 31, 32, 33, 34, 35, 36, 37, 38, 39, 40, 41, 42, 43, 44] (by kernel_rfl) (fun _ _ _ h => h) hS (fun w' hSw => ?_) ?_
              rotate_left
              · obtain ⟨⟨b0, b1, b2⟩, b3, b4, b5, b6⟩ := hSw
                unfold bareOp
                go_simp
                try with_reducible rfl
              simp only [Act.put, List.setIfInBounds_toArray, List.set_cons_zero, List.set_cons_succ]
              refine wpAnyB_onlyG (i := 11) (some 33) (Op.call { callee := Callee.value (Operand.func 60), args := #[Operand.tmp 30, Operand.tmp 32], argTypes := #[25, 22] }) 4 (some (6, false)) ⟨_, rfl, rfl, rfl, rfl, rfl⟩ (by kernel_rfl) rfl (fun K hK => ?_)
              unfold bareOp
              go_wp2_with (go_at_call 60; refine (rbelow_any _ (HDI.out.h2.keep HBW.out) HDI.out.n2 HB2.out).mono ?_; rintro e w8 ⟨rfl, rfl⟩)
              refine hK.out _ _ (fun _ => hS) ?_
              clear hK K
              try simp only [Act.put, List.setIfInBounds_toArray, List.set_cons_zero, List.set_cons_succ]
              refine wpAnyB_takePG (i := 12) (some 34) (Op.unOp UnOp.not 4 (Operand.tmp 33)) 4 (some (6, false)) (v := ?_) ⟨_, rfl, rfl, rfl, rfl, rfl⟩ rfl (by kernel_rfl) (by kernel_rfl) (by kernel_rfl) (by kernel_rfl) (fun _ _ _ h => h) (fun _ => hS) (fun w' => ?_) ?_
              rotate_left
              · unfold bareOp
                go_simp
                try with_reducible rfl
              simp only [Act.put, List.setIfInBounds_toArray, List.set_cons_zero, List.set_cons_succ]
              refine wpAnyB_takeP (i := 13) (some 35) (Op.pick (Operand.tmp 28) (Operand.const (Value.bool true)) (Operand.tmp 34)) 4 (v := ?_) ⟨_, rfl, rfl, rfl, rfl, rfl⟩ (by kernel_rfl) (by kernel_rfl) (by kernel_rfl) (by kernel_rfl) (fun _ _ _ h => h) (fun _ => hS) (fun w' => ?_) ?_
              rotate_left
              · unfold bareOp
                go_simp
                try with_reducible rfl
              simp only [Act.put, List.setIfInBounds_toArray, List.set_cons_zero, List.set_cons_succ]
              refine wpAnyB_takeP (i := 14) (some 36) (Op.move (Operand.tmp 35)) 4 (v := ?_) ⟨_, rfl, rfl, rfl, rfl, rfl⟩ (by kernel_rfl) (by kernel_rfl) (by kernel_rfl) (by kernel_rfl) (fun _ _ _ h => h) (fun _ => hS) (fun w' => ?_) ?_
              rotate_left
              · unfold bareOp
                go_simp
                try with_reducible rfl
              simp only [Act.put, List.setIfInBounds_toArray, List.set_cons_zero, List.set_cons_succ]
              refine wpAnyB_takePG (i := 15) (some 37) (Op.fieldAddr 27 (Operand.tmp 6) 1) 0 (some (14, false)) (v := ?_) ⟨_, rfl, rfl, rfl, rfl, rfl⟩ rfl (by kernel_rfl) (by kernel_rfl) (by kernel_rfl) (by kernel_rfl) (fun _ _ _ h => h) (fun _ => hS) (fun w' => ?_) ?_
              rotate_left
              · unfold bareOp
                go_simp
                try with_reducible rfl
              simp only [Act.put, List.setIfInBounds_toArray, List.set_cons_zero, List.set_cons_succ]
              refine wpAnyB_takeG (i := 16) (some 38) (Op.load 25 (Operand.tmp 37)) 25 (some (14, false)) (v := ?_) ⟨_, rfl, rfl, rfl, rfl, rfl⟩ rfl (by kernel_rfl) (by kernel_rfl) (by kernel_rfl) [17, 21, 22, 23, 24, 25, 26, 27, 28, 29, 30, 31, 32, 33, 34, 35, 36, 37, 38, 39, 40, 41, 42, 43, 44] (by kernel_rfl) (fun _ _ _ h => h) hS (fun w' hSw => ?_) ?_
              rotate_left
              · obtain ⟨⟨b0, b1, b2⟩, b3, b4, b5, b6⟩ := hSw
                unfold bareOp
                go_simp
                try with_reducible rfl
              simp only [Act.put, List.setIfInBounds_toArray, List.set_cons_zero, List.set_cons_succ]
              refine wpAnyB_takePG (i := 17) (some 39) (Op.call { callee := Callee.builtin Builtin.len, args := #[Operand.tmp 38], argTypes := #[25] }) 3 (some (14, false)) (v := ?_) ⟨_, rfl, rfl, rfl, rfl, rfl⟩ rfl (by kernel_rfl) (by kernel_rfl) (by kernel_rfl) (by kernel_rfl) (fun _ _ _ h => h) (fun _ => hS) (fun w' => ?_) ?_
              rotate_left
              · unfold bareOp
                go_simp
                try with_reducible rfl
              simp only [Act.put, List.setIfInBounds_toArray, List.set_cons_zero, List.set_cons_succ]
              refine wpAnyB_takePG (i := 18) (some 40) (Op.fieldAddr 27 (Operand.tmp 6) 0) 0 (some (14, false)) (v := ?_) ⟨_, rfl, rfl, rfl, rfl, rfl⟩ rfl (by kernel_rfl) (by kernel_rfl) (by kernel_rfl) (by kernel_rfl) (fun _ _ _ h => h) (fun _ => hS) (fun w' => ?_) ?_
              rotate_left
              · unfold bareOp
                go_simp
                try with_reducible rfl
              simp only [Act.put, List.setIfInBounds_toArray, List.set_cons_zero, List.set_cons_succ]
              refine wpAnyB_takeG (i := 19) (some 41) (Op.load 25 (Operand.tmp 40)) 25 (some (14, false)) (v := ?_) ⟨_, rfl, rfl, rfl, rfl, rfl⟩ rfl (by kernel_rfl) (by kernel_rfl) (by kernel_rfl) [20, 21, 22, 23, 24, 25, 26, 27, 28, 29, 30, 31, 32, 33, 34, 35, 36, 37, 38, 39, 40, 41, 42, 43, 44] (by kernel_rfl) (fun _ _ _ h => h) hS (fun w' hSw => ?_) ?_
              rotate_left
              · obtain ⟨⟨b0, b1, b2⟩, b3, b4, b5, b6⟩ := hSw
                unfold bareOp
                go_simp
                try with_reducible rfl
              simp only [Act.put, List.setIfInBounds_toArray, List.set_cons_zero, List.set_cons_succ]
              refine wpAnyB_takePG (i := 20) (some 42) (Op.call { callee := Callee.builtin Builtin.len, args := #[Operand.tmp 41], argTypes := #[25] }) 3 (some (14, false)) (v := ?_) ⟨_, rfl, rfl, rfl, rfl, rfl⟩ rfl (by kernel_rfl) (by kernel_rfl) (by kernel_rfl) (by kernel_rfl) (fun _ _ _ h => h) (fun _ => hS) (fun w' => ?_) ?_
              rotate_left
              · unfold bareOp
                go_simp
                try with_reducible rfl
              simp only [Act.put, List.setIfInBounds_toArray, List.set_cons_zero, List.set_cons_succ]
              refine wpAnyB_takePG (i := 21) (some 43) (Op.binOp BinOp.lss 3 (Operand.tmp 39) (Operand.tmp 42) 3) 4 (some (14, false)) (v := ?_) ⟨_, rfl, rfl, rfl, rfl, rfl⟩ rfl (by kernel_rfl) (by kernel_rfl) (by kernel_rfl) (by kernel_rfl) (fun _ _ _ h => h) (fun _ => hS) (fun w' => ?_) ?_
              rotate_left
              · unfold bareOp
                go_simp
                try with_reducible rfl
              simp only [Act.put, List.setIfInBounds_toArray, List.set_cons_zero, List.set_cons_succ]
              refine wpAnyB_takeP (i := 22) (some 44) (Op.pick (Operand.tmp 36) (Operand.const (Value.bool true)) (Operand.tmp 43)) 4 (v := ?_) ⟨_, rfl, rfl, rfl, rfl, rfl⟩ (by kernel_rfl) (by kernel_rfl) (by kernel_rfl) (by kernel_rfl) (fun _ _ _ h => h) (fun _ => hS) (fun w' => ?_) ?_
              rotate_left
              · unfold bareOp
                go_simp
                try with_reducible rfl
              simp only [Act.put, List.setIfInBounds_toArray, List.set_cons_zero, List.set_cons_succ]
              refine wpAnyB_takeP (i := 23) (some 45) (Op.move (Operand.tmp 44)) 4 (v := ?_) ⟨_, rfl, rfl, rfl, rfl, rfl⟩ (by kernel_rfl) (by kernel_rfl) (by kernel_rfl) (by kernel_rfl) (fun _ _ _ h => h) (fun _ => hS) (fun w' => ?_) ?_
              rotate_left
              · unfold bareOp
                go_simp
                try with_reducible rfl
              simp only [Act.put, List.setIfInBounds_toArray, List.set_cons_zero, List.set_cons_succ]
              refine wpAnyB_takePG (i := 24) (some 46) (Op.fieldAddr 27 (Operand.tmp 6) 0) 0 (some (23, false)) (v := ?_) ⟨_, rfl, rfl, rfl, rfl, rfl⟩ rfl (by kernel_rfl) (by kernel_rfl) (by kernel_rfl) (by kernel_rfl) (fun _ _ _ h => h) (fun _ => hS) (fun w' => ?_) ?_
              rotate_left
              · unfold bareOp
                go_simp
                try with_reducible rfl
              simp only [Act.put, List.setIfInBounds_toArray, List.set_cons_zero, List.set_cons_succ]
              refine wpAnyB_takeG (i := 25) (some 47) (Op.load 25 (Operand.tmp 46)) 25 (some (23, false)) (v := ?_) ⟨_, rfl, rfl, rfl, rfl, rfl⟩ rfl (by kernel_rfl) (by kernel_rfl) (by kernel_rfl) [26, 32, 33, 34, 35, 36, 37, 38, 39, 40, 41, 42, 43, 44] (by kernel_rfl) (fun _ _ _ h => h) hS (fun w' hSw => ?_) ?_
              rotate_left
              · obtain ⟨⟨b0, b1, b2⟩, b3, b4, b5, b6⟩ := hSw
                unfold bareOp
                go_simp
                try with_reducible rfl
              simp only [Act.put, List.setIfInBounds_toArray, List.set_cons_zero, List.set_cons_succ]
              refine wpAnyB_takePG (i := 26) (some 48) (Op.call { callee := Callee.builtin Builtin.len, args := #[Operand.tmp 47], argTypes := #[25] }) 3 (some (23, false)) (v := ?_) ⟨_, rfl, rfl, rfl, rfl, rfl⟩ rfl (by kernel_rfl) (by kernel_rfl) (by kernel_rfl) (by kernel_rfl) (fun _ _ _ h => h) (fun _ => hS) (fun w' => ?_) ?_
              rotate_left
              · unfold bareOp
                go_simp
                try with_reducible rfl
              simp only [Act.put, List.setIfInBounds_toArray, List.set_cons_zero, List.set_cons_succ]
              refine wpAnyB_takePG (i := 27) (some 49) (Op.move (Operand.tmp 1)) 33 (some (23, false)) (v := ?_) ⟨_, rfl, rfl, rfl, rfl, rfl⟩ rfl (by kernel_rfl) (by kernel_rfl) (by kernel_rfl) (by kernel_rfl) (fun _ _ _ h => h) (fun _ => hS) (fun w' => ?_) ?_
              rotate_left
              · unfold bareOp
                go_simp
                try with_reducible rfl
              simp only [Act.put, List.setIfInBounds_toArray, List.set_cons_zero, List.set_cons_succ]
              refine wpAnyB_takePG (i := 28) (some 50) (Op.indexAddr 33 (Operand.tmp 49) (Operand.const (Value.int IntKind.i64 0))) 0 (some (23, false)) (v := ?_) ⟨_, rfl, rfl, rfl, rfl, rfl⟩ rfl (by kernel_rfl) (by kernel_rfl) (by kernel_rfl) (by kernel_rfl) (fun _ _ _ h => h) (fun _ => hS) (fun w' => ?_) ?_
              rotate_left
              · unfold bareOp
                go_simp
                try with_reducible rfl
              simp only [Act.put, List.setIfInBounds_toArray, List.set_cons_zero, List.set_cons_succ]
              refine wpAnyB_takePG (i := 29) (some 51) (Op.fieldAddr 27 (Operand.tmp 50) 0) 0 (some (23, false)) (v := ?_) ⟨_, rfl, rfl, rfl, rfl, rfl⟩ rfl (by kernel_rfl) (by kernel_rfl) (by kernel_rfl) (by kernel_rfl) (fun _ _ _ h => h) (fun _ => hS) (fun w' => ?_) ?_
              rotate_left
              · unfold bareOp
                go_simp
                try with_reducible rfl
              simp only [Act.put, List.setIfInBounds_toArray, List.set_cons_zero, List.set_cons_succ]
              refine wpAnyB_takeG (i := 30) (some 52) (Op.load 25 (Operand.tmp 51)) 25 (some (23, false)) (v := ?_) ⟨_, rfl, rfl, rfl, rfl, rfl⟩ rfl (by kernel_rfl) (by kernel_rfl) (by kernel_rfl) [31, 32, 33, 34, 35, 36, 37, 38, 39, 40, 41, 42, 43, 44] (by kernel_rfl) (fun _ _ _ h => h) hS (fun w' hSw => ?_) ?_
              rotate_left
              · obtain ⟨⟨b0, b1, b2⟩, b3, b4, b5, b6⟩ := hSw
                unfold bareOp
                go_simp
                try with_reducible rfl
              simp only [Act.put, List.setIfInBounds_toArray, List.set_cons_zero, List.set_cons_succ]
              refine wpAnyB_takePG (i := 31) (some 53) (Op.call { callee := Callee.builtin Builtin.len, args := #[Operand.tmp 52], argTypes := #[25] }) 3 (some (23, false)) (v := ?_) ⟨_, rfl, rfl, rfl, rfl, rfl⟩ rfl (by kernel_rfl) (by kernel_rfl) (by kernel_rfl) (by kernel_rfl) (fun _ _ _ h => h) (fun _ => hS) (fun w' => ?_) ?_
              rotate_left
              · unfold bareOp
                go_simp
                try with_reducible rfl
              simp only [Act.put, List.setIfInBounds_toArray, List.set_cons_zero, List.set_cons_succ]
              refine wpAnyB_takePG (i := 32) (some 54) (Op.binOp BinOp.neq 3 (Operand.tmp 48) (Operand.tmp 53) 3) 4 (some (23, false)) (v := ?_) ⟨_, rfl, rfl, rfl, rfl, rfl⟩ rfl (by kernel_rfl) (by kernel_rfl) (by kernel_rfl) (by kernel_rfl) (fun _ _ _ h => h) (fun _ => hS) (fun w' => ?_) ?_
              rotate_left
              · unfold bareOp
                go_simp
                try with_reducible rfl
              simp only [Act.put, List.setIfInBounds_toArray, List.set_cons_zero, List.set_cons_succ]
              refine wpAnyB_takeP (i := 33) (some 55) (Op.pick (Operand.tmp 45) (Operand.const (Value.bool true)) (Operand.tmp 54)) 4 (v := ?_) ⟨_, rfl, rfl, rfl, rfl, rfl⟩ (by kernel_rfl) (by kernel_rfl) (by kernel_rfl) (by kernel_rfl) (fun _ _ _ h => h) (fun _ => hS) (fun w' => ?_) ?_
              rotate_left
              · unfold bareOp
                go_simp
                try with_reducible rfl
              simp only [Act.put, List.setIfInBounds_toArray, List.set_cons_zero, List.set_cons_succ]
              refine wpAnyB_takeP (i := 34) (some 56) (Op.move (Operand.tmp 55)) 4 (v := ?_) ⟨_, rfl, rfl, rfl, rfl, rfl⟩ (by kernel_rfl) (by kernel_rfl) (by kernel_rfl) (by kernel_rfl) (fun _ _ _ h => h) (fun _ => hS) (fun w' => ?_) ?_
              rotate_left
              · unfold bareOp
                go_simp
                try with_reducible rfl
              simp only [Act.put, List.setIfInBounds_toArray, List.set_cons_zero, List.set_cons_succ]
              refine wpAnyB_skip (i := 35) (some 57) (Op.fieldAddr 27 (Operand.tmp 6) 1) 0 (some (34, false)) ⟨_, rfl, rfl, rfl, rfl, rfl⟩ rfl (by kernel_rfl) (by kernel_rfl) (by kernel_rfl) (by kernel_rfl) (fun _ _ _ h => h) (fun _ => hS) ?_
              simp only [Act.put, List.setIfInBounds_toArray, List.set_cons_zero, List.set_cons_succ]
              refine wpAnyB_skip (i := 36) (some 58) (Op.load 25 (Operand.tmp 57)) 25 (some (34, false)) ⟨_, rfl, rfl, rfl, rfl, rfl⟩ rfl (by kernel_rfl) (by kernel_rfl) (by kernel_rfl) (by kernel_rfl) (fun _ _ _ h => h) (fun _ => hS) ?_
              simp only [Act.put, List.setIfInBounds_toArray, List.set_cons_zero, List.set_cons_succ]
              refine wpAnyB_skip (i := 37) (some 59) (Op.call { callee := Callee.builtin Builtin.len, args := #[Operand.tmp 58], argTypes := #[25] }) 3 (some (34, false)) ⟨_, rfl, rfl, rfl, rfl, rfl⟩ rfl (by kernel_rfl) (by kernel_rfl) (by kernel_rfl) (by kernel_rfl) (fun _ _ _ h => h) (fun _ => hS) ?_
              simp only [Act.put, List.setIfInBounds_toArray, List.set_cons_zero, List.set_cons_succ]
              refine wpAnyB_skip (i := 38) (some 60) (Op.move (Operand.tmp 1)) 33 (some (34, false)) ⟨_, rfl, rfl, rfl, rfl, rfl⟩ rfl (by kernel_rfl) (by kernel_rfl) (by kernel_rfl) (by kernel_rfl) (fun _ _ _ h => h) (fun _ => hS) ?_
              simp only [Act.put, List.setIfInBounds_toArray, List.set_cons_zero, List.set_cons_succ]
              refine wpAnyB_skip (i := 39) (some 61) (Op.indexAddr 33 (Operand.tmp 60) (Operand.const (Value.int IntKind.i64 0))) 0 (some (34, false)) ⟨_, rfl, rfl, rfl, rfl, rfl⟩ rfl (by kernel_rfl) (by kernel_rfl) (by kernel_rfl) (by kernel_rfl) (fun _ _ _ h => h) (fun _ => hS) ?_
              simp only [Act.put, List.setIfInBounds_toArray, List.set_cons_zero, List.set_cons_succ]
              refine wpAnyB_skip (i := 40) (some 62) (Op.fieldAddr 27 (Operand.tmp 61) 1) 0 (some (34, false)) ⟨_, rfl, rfl, rfl, rfl, rfl⟩ rfl (by kernel_rfl) (by kernel_rfl) (by kernel_rfl) (by kernel_rfl) (fun _ _ _ h => h) (fun _ => hS) ?_
              simp only [Act.put, List.setIfInBounds_toArray, List.set_cons_zero, List.set_cons_succ]
              refine wpAnyB_skip (i := 41) (some 63) (Op.load 25 (Operand.tmp 62)) 25 (some (34, false)) ⟨_, rfl, rfl, rfl, rfl, rfl⟩ rfl (by kernel_rfl) (by kernel_rfl) (by kernel_rfl) (by kernel_rfl) (fun _ _ _ h => h) (fun _ => hS) ?_
              simp only [Act.put, List.setIfInBounds_toArray, List.set_cons_zero, List.set_cons_succ]
              refine wpAnyB_skip (i := 42) (some 64) (Op.call { callee := Callee.builtin Builtin.len, args := #[Operand.tmp 63], argTypes := #[25] }) 3 (some (34, false)) ⟨_, rfl, rfl, rfl, rfl, rfl⟩ rfl (by kernel_rfl) (by kernel_rfl) (by kernel_rfl) (by kernel_rfl) (fun _ _ _ h => h) (fun _ => hS) ?_
              simp only [Act.put, List.setIfInBounds_toArray, List.set_cons_zero, List.set_cons_succ]
              refine wpAnyB_skip (i := 43) (some 65) (Op.binOp BinOp.neq 3 (Operand.tmp 59) (Operand.tmp 64) 3) 4 (some (34, false)) ⟨_, rfl, rfl, rfl, rfl, rfl⟩ rfl (by kernel_rfl) (by kernel_rfl) (by kernel_rfl) (by kernel_rfl) (fun _ _ _ h => h) (fun _ => hS) ?_
              simp only [Act.put, List.setIfInBounds_toArray, List.set_cons_zero, List.set_cons_succ]
              refine wpAnyB_only (i := 44) (some 66) (Op.pick (Operand.tmp 56) (Operand.const (Value.bool true)) (Operand.tmp 65)) 4 ⟨_, rfl, rfl, rfl, rfl, rfl⟩ (by kernel_rfl) (fun K hK => ?_)
              unfold bareOp
              go_wp2_with fail
              refine hK.out _ _ (fun h => absurd (h.symm.trans (by kernel_rfl : _ = true)) (by decide)) ?_
              clear hK K
              try simp only [Act.put, List.setIfInBounds_toArray, List.set_cons_zero, List.set_cons_succ]
              refine wpAnyB_done (by kernel_rfl) ?_ _
              clear hS
              go_wp2_with fail
              go_ret
              exact ⟨by rw [HZ.out]; rfl, HBW.out⟩
            case pos =>
              have e2 : ((D.n : Int) != (E.n : Int)) = false := by simp; omega
              have e2n : (D.n != E.n) = false := by simpa using k2
              by_cases k3 : D.m = E.m
              case neg =>
                have e3 : ((D.m : Int) != (E.m : Int)) = true := by simp; omega
                have e3n : (D.m != E.m) = true := by simpa using k3
                have HF := Lib.hid (show ¬ D.ys.length = E.ys.length by rw [← HN2.out, ← HM2.out]; exact k3)
                clear k2 k3
                have HZ := Lib.hid (show mallS P Q E l = false by
                  rw [mallS, List.all_eq_false]
                  exact ⟨D, HDM.out, by simp [fitsS, HF.out]⟩)
                replace F_g := Lib.hid F_g.out.drew
                replace F_d := Lib.hid F_d.out.drew
                replace HBW := Lib.hid HBW.out.drew
                have hS := And.intro F_g.out.s (And.intro F_d.out.c0 (And.intro F_d.out.c1 (And.intro ((HBW.out.cell (p := ⟨s, o, none⟩) hs).trans HE0.out) ((HBW.out.cell (p := ⟨s, o + 1, none⟩) hs).trans HE1.out))))
                refine wp_region_stage 44 (fun w' => SBox w' w.heap.size P Q G ∧ w'.cell? ⟨wo.heap.size, 0, none⟩ = some (.slice D.a D.n D.c) ∧ w'.cell? ⟨wo.heap.size, 1, none⟩ = some (.slice D.b D.m D.d) ∧ w'.cell? ⟨s, o, none⟩ = some (.slice E.a E.n E.c) ∧ w'.cell? ⟨s, o + 1, none⟩ = some (.slice E.b E.m E.d)) (by kernel_rfl) ?_
                refine wpAnyB_takeP (i := 0) (some 22) (Op.fieldAddr 27 (Operand.tmp 6) 0) 0 (v := ?_) ⟨_, rfl, rfl, rfl, rfl, rfl⟩ (by kernel_rfl) (by kernel_rfl) (by kernel_rfl) (by kernel_rfl) (fun _ _ _ h => h) (fun _ => hS) (fun w' => ?_) ?_
                rotate_left
                · unfold bareOp
                  go_simp
                  try with_reducible rfl
                simp only [Act.put, List.setIfInBounds_toArray, List.set_cons_zero, List.set_cons_succ]
                refine wpAnyB_take (i := 1) (some 23) (Op.load 25 (Operand.tmp 22)) 25 (v := ?_) ⟨_, rfl, rfl, rfl, rfl, rfl⟩ (by kernel_rfl) (by kernel_rfl) (by kernel_rfl) [4, 5, 6, 7, 8, 9, 10, 11, 12, 13, 14, 15, 16, 17, 18, 19, 20, 21, 22, 23, 24, 25, 26, 27, 28, 29, 30, 31, 32, 33, 34, 35, 36, 37, 38, 39, 40, 41, 42, 43, 44] (by kernel_rfl) (fun _ _ _ h => h) hS (fun w' hSw => ?_) ?_
                rotate_left
                · obtain ⟨⟨b0, b1, b2⟩, b3, b4, b5, b6⟩ := hSw
                  unfold bareOp
                  go_simp
                  try with_reducible rfl
                simp only [Act.put, List.setIfInBounds_toArray, List.set_cons_zero, List.set_cons_succ]
                refine wpAnyB_takeP (i := 2) (some 24) (Op.fieldAddr 24 (Operand.tmp 2) 0) 0 (v := ?_) ⟨_, rfl, rfl, rfl, rfl, rfl⟩ (by kernel_rfl) (by kernel_rfl) (by kernel_rfl) (by kernel_rfl) (fun _ _ _ h => h) (fun _ => hS) (fun w' => ?_) ?_
                rotate_left
                · unfold bareOp
                  go_simp
                  try with_reducible rfl
                simp only [Act.put, List.setIfInBounds_toArray, List.set_cons_zero, List.set_cons_succ]
                refine wpAnyB_take (i := 3) (some 25) (Op.load 22 (Operand.tmp 24)) 22 (v := ?_) ⟨_, rfl, rfl, rfl, rfl, rfl⟩ (by kernel_rfl) (by kernel_rfl) (by kernel_rfl) [4, 5, 6, 7, 8, 9, 10, 11, 12, 13, 14, 15, 16, 17, 18, 19, 20, 21, 22, 23, 24, 25, 26, 27, 28, 29, 30, 31, 32, 33, 34, 35, 36, 37, 38, 39, 40, 41, 42, 43, 44] (by kernel_rfl) (fun _ _ _ h => h) hS (fun w' hSw => ?_) ?_
                rotate_left
                · obtain ⟨⟨b0, b1, b2⟩, b3, b4, b5, b6⟩ := hSw
                  unfold bareOp
                  go_simp
                  try with_reducible rfl
                simp only [Act.put, List.setIfInBounds_toArray, List.set_cons_zero, List.set_cons_succ]
                refine wpAnyB_only (i := 4) (some 26) (Op.call { callee := Callee.value (Operand.func 60), args := #[Operand.tmp 23, Operand.tmp 25], argTypes := #[25, 22] }) 4 ⟨_, rfl, rfl, rfl, rfl, rfl⟩ (by kernel_rfl) (fun K hK => ?_)
                unfold bareOp
                go_wp2_with (go_at_call 60; refine (rbelow_any _ (HDI.out.h1.keep HBW.out) HDI.out.n1 HB1.out).mono ?_; rintro e w8 ⟨rfl, rfl⟩)
                refine hK.out _ _ (fun _ => hS) ?_
                clear hK K
                try simp only [Act.put, List.setIfInBounds_toArray, List.set_cons_zero, List.set_cons_succ]
                refine wpAnyB_takeP (i := 5) (some 27) (Op.unOp UnOp.not 4 (Operand.tmp 26)) 4 (v := ?_) ⟨_, rfl, rfl, rfl, rfl, rfl⟩ (by kernel_rfl) (by kernel_rfl) (by kernel_rfl) (by kernel_rfl) (fun _ _ _ h => h) (fun _ => hS) (fun w' => ?_) ?_
                rotate_left
                · unfold bareOp
                  go_simp
                  try with_reducible rfl
                simp only [Act.put, List.setIfInBounds_toArray, List.set_cons_zero, List.set_cons_succ]
                refine wpAnyB_takeP (i := 6) (some 28) (Op.move (Operand.tmp 27)) 4 (v := ?_) ⟨_, rfl, rfl, rfl, rfl, rfl⟩ (by kernel_rfl) (by kernel_rfl) (by kernel_rfl) (by kernel_rfl) (fun _ _ _ h => h) (fun _ => hS) (fun w' => ?_) ?_
                rotate_left
                · unfold bareOp
                  go_simp
                  try with_reducible rfl
                simp only [Act.put, List.setIfInBounds_toArray, List.set_cons_zero, List.set_cons_succ]
                refine wpAnyB_takePG (i := 7) (some 29) (Op.fieldAddr 27 (Operand.tmp 6) 1) 0 (some (6, false)) (v := ?_) ⟨_, rfl, rfl, rfl, rfl, rfl⟩ rfl (by kernel_rfl) (by kernel_rfl) (by kernel_rfl) (by kernel_rfl) (fun _ _ _ h => h) (fun _ => hS) (fun w' => ?_) ?_
                rotate_left
                · unfold bareOp
                  go_simp
                  try with_reducible rfl
                simp only [Act.put, List.setIfInBounds_toArray, List.set_cons_zero, List.set_cons_succ]
                refine wpAnyB_takeG (i := 8) (some 30) (Op.load 25 (Operand.tmp 29)) 25 (some (6, false)) (v := ?_) ⟨_, rfl, rfl, rfl, rfl, rfl⟩ rfl (by kernel_rfl) (by kernel_rfl) (by kernel_rfl) [11, 12, 13, 14, 15, 16, 17, 18, 19, 20, 21, 22, 23, 24, 25, 26, 27, 28, 29, 30, 31, 32, 33, 34, 35, 36, 37, 38, 39, 40, 41, 42, 43, 44] (by kernel_rfl) (fun _ _ _ h => h) hS (fun w' hSw => ?_) ?_
                rotate_left
                · obtain ⟨⟨b0, b1, b2⟩, b3, b4, b5, b6⟩ := hSw
                  unfold bareOp
                  go_simp
                  try with_reducible rfl
                simp only [Act.put, List.setIfInBounds_toArray, List.set_cons_zero, List.set_cons_succ]
                refine wpAnyB_takePG (i := 9) (some 31) (Op.fieldAddr 24 (Operand.tmp 2) 1) 0 (some (6, false)) (v := ?_) ⟨_, rfl, rfl, rfl, rfl, rfl⟩ rfl (by kernel_rfl) (by kernel_rfl) (by kernel_rfl) (by kernel_rfl) (fun _ _ _ h => h) (fun _ => hS) (fun w' => ?_) ?_
                rotate_left
                · unfold bareOp
                  go_simp
                  try with_reducible rfl
                simp only [Act.put, List.setIfInBounds_toArray, List.set_cons_zero, List.set_cons_succ]
                refine wpAnyB_takeG (i := 10) (some 32) (Op.load 22 (Operand.tmp 31)) 22 (some (6, false)) (v := ?_) ⟨_, rfl, rfl, rfl, rfl, rfl⟩ rfl (by kernel_rfl) (by kernel_rfl) (by kernel_rfl) [11, 12, 13, 14, 15, 16, 17, 18, 19, 20, 21, 22, 23, 24, 25, 26, 27, 28, 29, 30, 31, 32, 33, 34, 35, 36, 37, 38, 39, 40, 41, 42, 43, 44] (by kernel_rfl) (fun _ _ _ h => h) hS (fun w' hSw => ?_) ?_
                rotate_left
                · obtain ⟨⟨b0, b1, b2⟩, b3, b4, b5, b6⟩ := hSw
                  unfold bareOp
                  go_simp
                  try with_reducible rfl
                simp only [Act.put, List.setIfInBounds_toArray, List.set_cons_zero, List.set_cons_succ]
                refine wpAnyB_onlyG (i := 11) (some 33) (Op.call { callee := Callee.value (Operand.func 60), args := #[Operand.tmp 30, Operand.tmp 32], argTypes := #[25, 22] }) 4 (some (6, false)) ⟨_, rfl, rfl, rfl, rfl, rfl⟩ (by kernel_rfl) rfl (fun K hK => ?_)
                unfold bareOp
                go_wp2_with (go_at_call 60; refine (rbelow_any _ (HDI.out.h2.keep HBW.out) HDI.out.n2 HB2.out).mono ?_; rintro e w8 ⟨rfl, rfl⟩)
                refine hK.out _ _ (fun _ => hS) ?_
                clear hK K
                try simp only [Act.put, List.setIfInBounds_toArray, List.set_cons_zero, List.set_cons_succ]
                refine wpAnyB_takePG (i := 12) (some 34) (Op.unOp UnOp.not 4 (Operand.tmp 33)) 4 (some (6, false)) (v := ?_) ⟨_, rfl, rfl, rfl, rfl, rfl⟩ rfl (by kernel_rfl) (by kernel_rfl) (by kernel_rfl) (by kernel_rfl) (fun _ _ _ h => h) (fun _ => hS) (fun w' => ?_) ?_
                rotate_left
                · unfold bareOp
                  go_simp
                  try with_reducible rfl
                simp only [Act.put, List.setIfInBounds_toArray, List.set_cons_zero, List.set_cons_succ]
                refine wpAnyB_takeP (i := 13) (some 35) (Op.pick (Operand.tmp 28) (Operand.const (Value.bool true)) (Operand.tmp 34)) 4 (v := ?_) ⟨_, rfl, rfl, rfl, rfl, rfl⟩ (by kernel_rfl) (by kernel_rfl) (by kernel_rfl) (by kernel_rfl) (fun _ _ _ h => h) (fun _ => hS) (fun w' => ?_) ?_
                rotate_left
                · unfold bareOp
                  go_simp
                  try with_reducible rfl
                simp only [Act.put, List.setIfInBounds_toArray, List.set_cons_zero, List.set_cons_succ]
                refine wpAnyB_takeP (i := 14) (some 36) (Op.move (Operand.tmp 35)) 4 (v := ?_) ⟨_, rfl, rfl, rfl, rfl, rfl⟩ (by kernel_rfl) (by kernel_rfl) (by kernel_rfl) (by kernel_rfl) (fun _ _ _ h => h) (fun _ => hS) (fun w' => ?_) ?_
                rotate_left
                · unfold bareOp
                  go_simp
                  try with_reducible rfl
                simp only [Act.put, List.setIfInBounds_toArray, List.set_cons_zero, List.set_cons_succ]
                refine wpAnyB_takePG (i := 15) (some 37) (Op.fieldAddr 27 (Operand.tmp 6) 1) 0 (some (14, false)) (v := ?_) ⟨_, rfl, rfl, rfl, rfl, rfl⟩ rfl (by kernel_rfl) (by kernel_rfl) (by kernel_rfl) (by kernel_rfl) (fun _ _ _ h => h) (fun _ => hS) (fun w' => ?_) ?_
                rotate_left
                · unfold bareOp
                  go_simp
                  try with_reducible rfl
                simp only [Act.put, List.setIfInBounds_toArray, List.set_cons_zero, List.set_cons_succ]
                refine wpAnyB_takeG (i := 16) (some 38) (Op.load 25 (Operand.tmp 37)) 25 (some (14, false)) (v := ?_) ⟨_, rfl, rfl, rfl, rfl, rfl⟩ rfl (by kernel_rfl) (by kernel_rfl) (by kernel_rfl) [17, 21, 22, 23, 24, 25, 26, 27, 28, 29, 30, 31, 32, 33, 34, 35, 36, 37, 38, 39, 40, 41, 42, 43, 44] (by kernel_rfl) (fun _ _ _ h => h) hS (fun w' hSw => ?_) ?_
                rotate_left
                · obtain ⟨⟨b0, b1, b2⟩, b3, b4, b5, b6⟩ := hSw
                  unfold bareOp
                  go_simp
                  try with_reducible rfl
                simp only [Act.put, List.setIfInBounds_toArray, List.set_cons_zero, List.set_cons_succ]
                refine wpAnyB_takePG (i := 17) (some 39) (Op.call { callee := Callee.builtin Builtin.len, args := #[Operand.tmp 38], argTypes := #[25] }) 3 (some (14, false)) (v := ?_) ⟨_, rfl, rfl, rfl, rfl, rfl⟩ rfl (by kernel_rfl) (by kernel_rfl) (by kernel_rfl) (by kernel_rfl) (fun _ _ _ h => h) (fun _ => hS) (fun w' => ?_) ?_
                rotate_left
                · unfold bareOp
                  go_simp
                  try with_reducible rfl
                simp only [Act.put, List.setIfInBounds_toArray, List.set_cons_zero, List.set_cons_succ]
                refine wpAnyB_takePG (i := 18) (some 40) (Op.fieldAddr 27 (Operand.tmp 6) 0) 0 (some (14, false)) (v := ?_) ⟨_, rfl, rfl, rfl, rfl, rfl⟩ rfl (by kernel_rfl) (by kernel_rfl) (by kernel_rfl) (by kernel_rfl) (fun _ _ _ h => h) (fun _ => hS) (fun w' => ?_) ?_
                rotate_left
                · unfold bareOp
                  go_simp
                  try with_reducible rfl
                simp only [Act.put, List.setIfInBounds_toArray, List.set_cons_zero, List.set_cons_succ]
                refine wpAnyB_takeG (i := 19) (some 41) (Op.load 25 (Operand.tmp 40)) 25 (some (14, false)) (v := ?_) ⟨_, rfl, rfl, rfl, rfl, rfl⟩ rfl (by kernel_rfl) (by kernel_rfl) (by kernel_rfl) [20, 21, 22, 23, 24, 25, 26, 27, 28, 29, 30, 31, 32, 33, 34, 35, 36, 37, 38, 39, 40, 41, 42, 43, 44] (by kernel_rfl) (fun _ _ _ h => h) hS (fun w' hSw => ?_) ?_
                rotate_left
                · obtain ⟨⟨b0, b1, b2⟩, b3, b4, b5, b6⟩ := hSw
                  unfold bareOp
                  go_simp
                  try with_reducible rfl
                simp only [Act.put, List.setIfInBounds_toArray, List.set_cons_zero, List.set_cons_succ]
                refine wpAnyB_takePG (i := 20) (some 42) (Op.call { callee := Callee.builtin Builtin.len, args := #[Operand.tmp 41], argTypes := #[25] }) 3 (some (14, false)) (v := ?_) ⟨_, rfl, rfl, rfl, rfl, rfl⟩ rfl (by kernel_rfl) (by kernel_rfl) (by kernel_rfl) (by kernel_rfl) (fun _ _ _ h => h) (fun _ => hS) (fun w' => ?_) ?_
                rotate_left
                · unfold bareOp
                  go_simp
                  try with_reducible rfl
                simp only [Act.put, List.setIfInBounds_toArray, List.set_cons_zero, List.set_cons_succ]
                refine wpAnyB_takePG (i := 21) (some 43) (Op.binOp BinOp.lss 3 (Operand.tmp 39) (Operand.tmp 42) 3) 4 (some (14, false)) (v := ?_) ⟨_, rfl, rfl, rfl, rfl, rfl⟩ rfl (by kernel_rfl) (by kernel_rfl) (by kernel_rfl) (by kernel_rfl) (fun _ _ _ h => h) (fun _ => hS) (fun w' => ?_) ?_
                rotate_left
                · unfold bareOp
                  go_simp
                  try with_reducible rfl
                simp only [Act.put, List.setIfInBounds_toArray, List.set_cons_zero, List.set_cons_succ]
                refine wpAnyB_takeP (i := 22) (some 44) (Op.pick (Operand.tmp 36) (Operand.const (Value.bool true)) (Operand.tmp 43)) 4 (v := ?_) ⟨_, rfl, rfl, rfl, rfl, rfl⟩ (by kernel_rfl) (by kernel_rfl) (by kernel_rfl) (by kernel_rfl) (fun _ _ _ h => h) (fun _ => hS) (fun w' => ?_) ?_
                rotate_left
                · unfold bareOp
                  go_simp
                  try with_reducible rfl
                simp only [Act.put, List.setIfInBounds_toArray, List.set_cons_zero, List.set_cons_succ]
                refine wpAnyB_takeP (i := 23) (some 45) (Op.move (Operand.tmp 44)) 4 (v := ?_) ⟨_, rfl, rfl, rfl, rfl, rfl⟩ (by kernel_rfl) (by kernel_rfl) (by kernel_rfl) (by kernel_rfl) (fun _ _ _ h => h) (fun _ => hS) (fun w' => ?_) ?_
                rotate_left
                · unfold bareOp
                  go_simp
                  try with_reducible rfl
                simp only [Act.put, List.setIfInBounds_toArray, List.set_cons_zero, List.set_cons_succ]
                refine wpAnyB_takePG (i := 24) (some 46) (Op.fieldAddr 27 (Operand.tmp 6) 0) 0 (some (23, false)) (v := ?_) ⟨_, rfl, rfl, rfl, rfl, rfl⟩ rfl (by kernel_rfl) (by kernel_rfl) (by kernel_rfl) (by kernel_rfl) (fun _ _ _ h => h) (fun _ => hS) (fun w' => ?_) ?_
                rotate_left
                · unfold bareOp
                  go_simp
                  try with_reducible rfl
                simp only [Act.put, List.setIfInBounds_toArray, List.set_cons_zero, List.set_cons_succ]
                refine wpAnyB_takeG (i := 25) (some 47) (Op.load 25 (Operand.tmp 46)) 25 (some (23, false)) (v := ?_) ⟨_, rfl, rfl, rfl, rfl, rfl⟩ rfl (by kernel_rfl) (by kernel_rfl) (by kernel_rfl) [26, 32, 33, 34, 35, 36, 37, 38, 39, 40, 41, 42, 43, 44] (by kernel_rfl) (fun _ _ _ h => h) hS (fun w' hSw => ?_) ?_
                rotate_left
                · obtain ⟨⟨b0, b1, b2⟩, b3, b4, b5, b6⟩ := hSw
                  unfold bareOp
                  go_simp
                  try with_reducible rfl
                simp only [Act.put, List.setIfInBounds_toArray, List.set_cons_zero, List.set_cons_succ]
                refine wpAnyB_takePG (i := 26) (some 48) (Op.call { callee := Callee.builtin Builtin.len, args := #[Operand.tmp 47], argTypes := #[25] }) 3 (some (23, false)) (v := ?_) ⟨_, rfl, rfl, rfl, rfl, rfl⟩ rfl (by kernel_rfl) (by kernel_rfl) (by kernel_rfl) (by kernel_rfl) (fun _ _ _ h => h) (fun _ => hS) (fun w' => ?_) ?_
                rotate_left
                · unfold bareOp
                  go_simp
                  try with_reducible rfl
                simp only [Act.put, List.setIfInBounds_toArray, List.set_cons_zero, List.set_cons_succ]
                refine wpAnyB_takePG (i := 27) (some 49) (Op.move (Operand.tmp 1)) 33 (some (23, false)) (v := ?_) ⟨_, rfl, rfl, rfl, rfl, rfl⟩ rfl (by kernel_rfl) (by kernel_rfl) (by kernel_rfl) (by kernel_rfl) (fun _ _ _ h => h) (fun _ => hS) (fun w' => ?_) ?_
                rotate_left
                · unfold bareOp
                  go_simp
                  try with_reducible rfl
                simp only [Act.put, List.setIfInBounds_toArray, List.set_cons_zero, List.set_cons_succ]
                refine wpAnyB_takePG (i := 28) (some 50) (Op.indexAddr 33 (Operand.tmp 49) (Operand.const (Value.int IntKind.i64 0))) 0 (some (23, false)) (v := ?_) ⟨_, rfl, rfl, rfl, rfl, rfl⟩ rfl (by kernel_rfl) (by kernel_rfl) (by kernel_rfl) (by kernel_rfl) (fun _ _ _ h => h) (fun _ => hS) (fun w' => ?_) ?_
                rotate_left
                · unfold bareOp
                  go_simp
                  try with_reducible rfl
                simp only [Act.put, List.setIfInBounds_toArray, List.set_cons_zero, List.set_cons_succ]
                refine wpAnyB_takePG (i := 29) (some 51) (Op.fieldAddr 27 (Operand.tmp 50) 0) 0 (some (23, false)) (v := ?_) ⟨_, rfl, rfl, rfl, rfl, rfl⟩ rfl (by kernel_rfl) (by kernel_rfl) (by kernel_rfl) (by kernel_rfl) (fun _ _ _ h => h) (fun _ => hS) (fun w' => ?_) ?_
                rotate_left
                · unfold bareOp
                  go_simp
                  try with_reducible rfl
                simp only [Act.put, List.setIfInBounds_toArray, List.set_cons_zero, List.set_cons_succ]
                refine wpAnyB_takeG (i := 30) (some 52) (Op.load 25 (Operand.tmp 51)) 25 (some (23, false)) (v := ?_) ⟨_, rfl, rfl, rfl, rfl, rfl⟩ rfl (by kernel_rfl) (by kernel_rfl) (by kernel_rfl) [31, 32, 33, 34, 35, 36, 37, 38, 39, 40, 41, 42, 43, 44] (by kernel_rfl) (fun _ _ _ h => h) hS (fun w' hSw => ?_) ?_
                rotate_left
                · obtain ⟨⟨b0, b1, b2⟩, b3, b4, b5, b6⟩ := hSw
                  unfold bareOp
                  go_simp
                  try with_reducible rfl
                simp only [Act.put, List.setIfInBounds_toArray, List.set_cons_zero, List.set_cons_succ]
                refine wpAnyB_takePG (i := 31) (some 53) (Op.call { callee := Callee.builtin Builtin.len, args := #[Operand.tmp 52], argTypes := #[25] }) 3 (some (23, false)) (v := ?_) ⟨_, rfl, rfl, rfl, rfl, rfl⟩ rfl (by kernel_rfl) (by kernel_rfl) (by kernel_rfl) (by kernel_rfl) (fun _ _ _ h => h) (fun _ => hS) (fun w' => ?_) ?_
                rotate_left
                · unfold bareOp
                  go_simp
                  try with_reducible rfl
                simp only [Act.put, List.setIfInBounds_toArray, List.set_cons_zero, List.set_cons_succ]
                refine wpAnyB_takePG (i := 32) (some 54) (Op.binOp BinOp.neq 3 (Operand.tmp 48) (Operand.tmp 53) 3) 4 (some (23, false)) (v := ?_) ⟨_, rfl, rfl, rfl, rfl, rfl⟩ rfl (by kernel_rfl) (by kernel_rfl) (by kernel_rfl) (by kernel_rfl) (fun _ _ _ h => h) (fun _ => hS) (fun w' => ?_) ?_
                rotate_left
                · unfold bareOp
                  go_simp
                  try with_reducible rfl
                simp only [Act.put, List.setIfInBounds_toArray, List.set_cons_zero, List.set_cons_succ]
                refine wpAnyB_takeP (i := 33) (some 55) (Op.pick (Operand.tmp 45) (Operand.const (Value.bool true)) (Operand.tmp 54)) 4 (v := ?_) ⟨_, rfl, rfl, rfl, rfl, rfl⟩ (by kernel_rfl) (by kernel_rfl) (by kernel_rfl) (by kernel_rfl) (fun _ _ _ h => h) (fun _ => hS) (fun w' => ?_) ?_
                rotate_left
                · unfold bareOp
                  go_simp
                  try with_reducible rfl
                simp only [Act.put, List.setIfInBounds_toArray, List.set_cons_zero, List.set_cons_succ]
                refine wpAnyB_takeP (i := 34) (some 56) (Op.move (Operand.tmp 55)) 4 (v := ?_) ⟨_, rfl, rfl, rfl, rfl, rfl⟩ (by kernel_rfl) (by kernel_rfl) (by kernel_rfl) (by kernel_rfl) (fun _ _ _ h => h) (fun _ => hS) (fun w' => ?_) ?_
                rotate_left
                · unfold bareOp
                  go_simp
                  try with_reducible rfl
                simp only [Act.put, List.setIfInBounds_toArray, List.set_cons_zero, List.set_cons_succ]
                refine wpAnyB_takePG (i := 35) (some 57) (Op.fieldAddr 27 (Operand.tmp 6) 1) 0 (some (34, false)) (v := ?_) ⟨_, rfl, rfl, rfl, rfl, rfl⟩ rfl (by kernel_rfl) (by kernel_rfl) (by kernel_rfl) (by kernel_rfl) (fun _ _ _ h => h) (fun _ => hS) (fun w' => ?_) ?_
                rotate_left
                · unfold bareOp
                  go_simp
                  try with_reducible rfl
                simp only [Act.put, List.setIfInBounds_toArray, List.set_cons_zero, List.set_cons_succ]
                refine wpAnyB_takeG (i := 36) (some 58) (Op.load 25 (Operand.tmp 57)) 25 (some (34, false)) (v := ?_) ⟨_, rfl, rfl, rfl, rfl, rfl⟩ rfl (by kernel_rfl) (by kernel_rfl) (by kernel_rfl) [37, 43, 44] (by kernel_rfl) (fun _ _ _ h => h) hS (fun w' hSw => ?_) ?_
                rotate_left
                · obtain ⟨⟨b0, b1, b2⟩, b3, b4, b5, b6⟩ := hSw
                  unfold bareOp
                  go_simp
                  try with_reducible rfl
                simp only [Act.put, List.setIfInBounds_toArray, List.set_cons_zero, List.set_cons_succ]
                refine wpAnyB_takePG (i := 37) (some 59) (Op.call { callee := Callee.builtin Builtin.len, args := #[Operand.tmp 58], argTypes := #[25] }) 3 (some (34, false)) (v := ?_) ⟨_, rfl, rfl, rfl, rfl, rfl⟩ rfl (by kernel_rfl) (by kernel_rfl) (by kernel_rfl) (by kernel_rfl) (fun _ _ _ h => h) (fun _ => hS) (fun w' => ?_) ?_
                rotate_left
                · unfold bareOp
                  go_simp
                  try with_reducible rfl
                simp only [Act.put, List.setIfInBounds_toArray, List.set_cons_zero, List.set_cons_succ]
                refine wpAnyB_takePG (i := 38) (some 60) (Op.move (Operand.tmp 1)) 33 (some (34, false)) (v := ?_) ⟨_, rfl, rfl, rfl, rfl, rfl⟩ rfl (by kernel_rfl) (by kernel_rfl) (by kernel_rfl) (by kernel_rfl) (fun _ _ _ h => h) (fun _ => hS) (fun w' => ?_) ?_
                rotate_left
                · unfold bareOp
                  go_simp
                  try with_reducible rfl
                simp only [Act.put, List.setIfInBounds_toArray, List.set_cons_zero, List.set_cons_succ]
                refine wpAnyB_takePG (i := 39) (some 61) (Op.indexAddr 33 (Operand.tmp 60) (Operand.const (Value.int IntKind.i64 0))) 0 (some (34, false)) (v := ?_) ⟨_, rfl, rfl, rfl, rfl, rfl⟩ rfl (by kernel_rfl) (by kernel_rfl) (by kernel_rfl) (by kernel_rfl) (fun _ _ _ h => h) (fun _ => hS) (fun w' => ?_) ?_
                rotate_left
                · unfold bareOp
                  go_simp
                  try with_reducible rfl
                simp only [Act.put, List.setIfInBounds_toArray, List.set_cons_zero, List.set_cons_succ]
                refine wpAnyB_takePG (i := 40) (some 62) (Op.fieldAddr 27 (Operand.tmp 61) 1) 0 (some (34, false)) (v := ?_) ⟨_, rfl, rfl, rfl, rfl, rfl⟩ rfl (by kernel_rfl) (by kernel_rfl) (by kernel_rfl) (by kernel_rfl) (fun _ _ _ h => h) (fun _ => hS) (fun w' => ?_) ?_
                rotate_left
                · unfold bareOp
                  go_simp
                  try with_reducible rfl
                simp only [Act.put, List.setIfInBounds_toArray, List.set_cons_zero, List.set_cons_succ]
                refine wpAnyB_takeG (i := 41) (some 63) (Op.load 25 (Operand.tmp 62)) 25 (some (34, false)) (v := ?_) ⟨_, rfl, rfl, rfl, rfl, rfl⟩ rfl (by kernel_rfl) (by kernel_rfl) (by kernel_rfl) [42, 43, 44] (by kernel_rfl) (fun _ _ _ h => h) hS (fun w' hSw => ?_) ?_
                rotate_left
                · obtain ⟨⟨b0, b1, b2⟩, b3, b4, b5, b6⟩ := hSw
                  unfold bareOp
                  go_simp
                  try with_reducible rfl
                simp only [Act.put, List.setIfInBounds_toArray, List.set_cons_zero, List.set_cons_succ]
                refine wpAnyB_takePG (i := 42) (some 64) (Op.call { callee := Callee.builtin Builtin.len, args := #[Operand.tmp 63], argTypes := #[25] }) 3 (some (34, false)) (v := ?_) ⟨_, rfl, rfl, rfl, rfl, rfl⟩ rfl (by kernel_rfl) (by kernel_rfl) (by kernel_rfl) (by kernel_rfl) (fun _ _ _ h => h) (fun _ => hS) (fun w' => ?_) ?_
                rotate_left
                · unfold bareOp
                  go_simp
                  try with_reducible rfl
                simp only [Act.put, List.setIfInBounds_toArray, List.set_cons_zero, List.set_cons_succ]
                refine wpAnyB_takePG (i := 43) (some 65) (Op.binOp BinOp.neq 3 (Operand.tmp 59) (Operand.tmp 64) 3) 4 (some (34, false)) (v := ?_) ⟨_, rfl, rfl, rfl, rfl, rfl⟩ rfl (by kernel_rfl) (by kernel_rfl) (by kernel_rfl) (by kernel_rfl) (fun _ _ _ h => h) (fun _ => hS) (fun w' => ?_) ?_
                rotate_left
                · unfold bareOp
                  go_simp
                  try with_reducible rfl
                simp only [Act.put, List.setIfInBounds_toArray, List.set_cons_zero, List.set_cons_succ]
                refine wpAnyB_only (i := 44) (some 66) (Op.pick (Operand.tmp 56) (Operand.const (Value.bool true)) (Operand.tmp 65)) 4 ⟨_, rfl, rfl, rfl, rfl, rfl⟩ (by kernel_rfl) (fun K hK => ?_)
                unfold bareOp
                go_wp2_with fail
                refine hK.out _ _ (fun h => absurd (h.symm.trans (by kernel_rfl : _ = true)) (by decide)) ?_
                clear hK K
                try simp only [Act.put, List.setIfInBounds_toArray, List.set_cons_zero, List.set_cons_succ]
                refine wpAnyB_done (by kernel_rfl) ?_ _
                clear hS
                go_wp2_with fail
                go_ret
                exact ⟨by rw [HZ.out]; rfl, HBW.out⟩
              case pos =>
                have e3 : ((D.m : Int) != (E.m : Int)) = false := by simp; omega
                have e3n : (D.m != E.m) = false := by simpa using k3
                have HFT := Lib.hid (show fitsS P Q D.xs D.ys E.xs E.ys = true by
                  rw [fitsS, HB1.out, HB2.out, ← HN1.out, ← HN2.out, ← HM1.out, ← HM2.out, decide_eq_true (show D.n ≤ D.m by omega), decide_eq_true k2, decide_eq_true k3]; rfl)
                have HA2 := Lib.hid (show ∀ j (h : j < l.length), j < i + 1 → fitsS P Q l[j].xs l[j].ys E.xs E.ys = true from fun j h hj => by
                  by_cases e : j < i
                  · exact HA.out j h e
                  · obtain rfl : j = i := by omega
                    rw [HDE.out]; exact HFT.out)
                clear k2 k3
                replace F_g := Lib.hid F_g.out.drew
                replace F_d := Lib.hid F_d.out.drew
                replace HBW := Lib.hid HBW.out.drew
                have hS := And.intro F_g.out.s (And.intro F_d.out.c0 (And.intro F_d.out.c1 (And.intro ((HBW.out.cell (p := ⟨s, o, none⟩) hs).trans HE0.out) ((HBW.out.cell (p := ⟨s, o + 1, none⟩) hs).trans HE1.out))))
                refine wp_region_stage 44 (fun w' => SBox w' w.heap.size P Q G ∧ w'.cell? ⟨wo.heap.size, 0, none⟩ = some (.slice D.a D.n D.c) ∧ w'.cell? ⟨wo.heap.size, 1, none⟩ = some (.slice D.b D.m D.d) ∧ w'.cell? ⟨s, o, none⟩ = some (.slice E.a E.n E.c) ∧ w'.cell? ⟨s, o + 1, none⟩ = some (.slice E.b E.m E.d)) (by kernel_rfl) ?_
                refine wpAnyB_takeP (i := 0) (some 22) (Op.fieldAddr 27 (Operand.tmp 6) 0) 0 (v := ?_) ⟨_, rfl, rfl, rfl, rfl, rfl⟩ (by kernel_rfl) (by kernel_rfl) (by kernel_rfl) (by kernel_rfl) (fun _ _ _ h => h) (fun _ => hS) (fun w' => ?_) ?_
                rotate_left
                · unfold bareOp
                  go_simp
                  try with_reducible rfl
                simp only [Act.put, List.setIfInBounds_toArray, List.set_cons_zero, List.set_cons_succ]
                refine wpAnyB_take (i := 1) (some 23) (Op.load 25 (Operand.tmp 22)) 25 (v := ?_) ⟨_, rfl, rfl, rfl, rfl, rfl⟩ (by kernel_rfl) (by kernel_rfl) (by kernel_rfl) [4, 5, 6, 7, 8, 9, 10, 11, 12, 13, 14, 15, 16, 17, 18, 19, 20, 21, 22, 23, 24, 25, 26, 27, 28, 29, 30, 31, 32, 33, 34, 35, 36, 37, 38, 39, 40, 41, 42, 43, 44] (by kernel_rfl) (fun _ _ _ h => h) hS (fun w' hSw => ?_) ?_
                rotate_left
                · obtain ⟨⟨b0, b1, b2⟩, b3, b4, b5, b6⟩ := hSw
                  unfold bareOp
                  go_simp
                  try with_reducible rfl
                simp only [Act.put, List.setIfInBounds_toArray, List.set_cons_zero, List.set_cons_succ]
                refine wpAnyB_takeP (i := 2) (some 24) (Op.fieldAddr 24 (Operand.tmp 2) 0) 0 (v := ?_) ⟨_, rfl, rfl, rfl, rfl, rfl⟩ (by kernel_rfl) (by kernel_rfl) (by kernel_rfl) (by kernel_rfl) (fun _ _ _ h => h) (fun _ => hS) (fun w' => ?_) ?_
                rotate_left
                · unfold bareOp
                  go_simp
                  try with_reducible rfl
                simp only [Act.put, List.setIfInBounds_toArray, List.set_cons_zero, List.set_cons_succ]
                refine wpAnyB_take (i := 3) (some 25) (Op.load 22 (Operand.tmp 24)) 22 (v := ?_) ⟨_, rfl, rfl, rfl, rfl, rfl⟩ (by kernel_rfl) (by kernel_rfl) (by kernel_rfl) [4, 5, 6, 7, 8, 9, 10, 11, 12, 13, 14, 15, 16, 17, 18, 19, 20, 21, 22, 23, 24, 25, 26, 27, 28, 29, 30, 31, 32, 33, 34, 35, 36, 37, 38, 39, 40, 41, 42, 43, 44] (by kernel_rfl) (fun _ _ _ h => h) hS (fun w' hSw => ?_) ?_
                rotate_left
                · obtain ⟨⟨b0, b1, b2⟩, b3, b4, b5, b6⟩ := hSw
                  unfold bareOp
                  go_simp
                  try with_reducible rfl
                simp only [Act.put, List.setIfInBounds_toArray, List.set_cons_zero, List.set_cons_succ]
                refine wpAnyB_only (i := 4) (some 26) (Op.call { callee := Callee.value (Operand.func 60), args := #[Operand.tmp 23, Operand.tmp 25], argTypes := #[25, 22] }) 4 ⟨_, rfl, rfl, rfl, rfl, rfl⟩ (by kernel_rfl) (fun K hK => ?_)
                unfold bareOp
                go_wp2_with (go_at_call 60; refine (rbelow_any _ (HDI.out.h1.keep HBW.out) HDI.out.n1 HB1.out).mono ?_; rintro e w8 ⟨rfl, rfl⟩)
                refine hK.out _ _ (fun _ => hS) ?_
                clear hK K
                try simp only [Act.put, List.setIfInBounds_toArray, List.set_cons_zero, List.set_cons_succ]
                refine wpAnyB_takeP (i := 5) (some 27) (Op.unOp UnOp.not 4 (Operand.tmp 26)) 4 (v := ?_) ⟨_, rfl, rfl, rfl, rfl, rfl⟩ (by kernel_rfl) (by kernel_rfl) (by kernel_rfl) (by kernel_rfl) (fun _ _ _ h => h) (fun _ => hS) (fun w' => ?_) ?_
                rotate_left
                · unfold bareOp
                  go_simp
                  try with_reducible rfl
                simp only [Act.put, List.setIfInBounds_toArray, List.set_cons_zero, List.set_cons_succ]
                refine wpAnyB_takeP (i := 6) (some 28) (Op.move (Operand.tmp 27)) 4 (v := ?_) ⟨_, rfl, rfl, rfl, rfl, rfl⟩ (by kernel_rfl) (by kernel_rfl) (by kernel_rfl) (by kernel_rfl) (fun _ _ _ h => h) (fun _ => hS) (fun w' => ?_) ?_
                rotate_left
                · unfold bareOp
                  go_simp
                  try with_reducible rfl
                simp only [Act.put, List.setIfInBounds_toArray, List.set_cons_zero, List.set_cons_succ]
                refine wpAnyB_takePG (i := 7) (some 29) (Op.fieldAddr 27 (Operand.tmp 6) 1) 0 (some (6, false)) (v := ?_) ⟨_, rfl, rfl, rfl, rfl, rfl⟩ rfl (by kernel_rfl) (by kernel_rfl) (by kernel_rfl) (by kernel_rfl) (fun _ _ _ h => h) (fun _ => hS) (fun w' => ?_) ?_
                rotate_left
                · unfold bareOp
                  go_simp
                  try with_reducible rfl
                simp only [Act.put, List.setIfInBounds_toArray, List.set_cons_zero, List.set_cons_succ]
                refine wpAnyB_takeG (i := 8) (some 30) (Op.load 25 (Operand.tmp 29)) 25 (some (6, false)) (v := ?_) ⟨_, rfl, rfl, rfl, rfl, rfl⟩ rfl (by kernel_rfl) (by kernel_rfl) (by kernel_rfl) [11, 12, 13, 14, 15, 16, 17, 18, 19, 20, 21, 22, 23, 24, 25, 26, 27, 28, 29, 30, 31, 32, 33, 34, 35, 36, 37, 38, 39, 40, 41, 42, 43, 44] (by kernel_rfl) (fun _ _ _ h => h) hS (fun w' hSw => ?_) ?_
                rotate_left
                · obtain ⟨⟨b0, b1, b2⟩, b3, b4, b5, b6⟩ := hSw
                  unfold bareOp
                  go_simp
                  try with_reducible rfl
                simp only [Act.put, List.setIfInBounds_toArray, List.set_cons_zero, List.set_cons_succ]
                refine wpAnyB_takePG (i := 9) (some 31) (Op.fieldAddr 24 (Operand.tmp 2) 1) 0 (some (6, false)) (v := ?_) ⟨_, rfl, rfl, rfl, rfl, rfl⟩ rfl (by kernel_rfl) (by kernel_rfl) (by kernel_rfl) (by kernel_rfl) (fun _ _ _ h => h) (fun _ => hS) (fun w' => ?_) ?_
                rotate_left
                · unfold bareOp
                  go_simp
                  try with_reducible rfl
                simp only [Act.put, List.setIfInBounds_toArray, List.set_cons_zero, List.set_cons_succ]
                refine wpAnyB_takeG (i := 10) (some 32) (Op.load 22 (Operand.tmp 31)) 22 (some (6, false)) (v := ?_) ⟨_, rfl, rfl, rfl, rfl, rfl⟩ rfl (by kernel_rfl) (by kernel_rfl) (by kernel_rfl) [11, 12, 13, 14, 15, 16, 17, 18, 19, 20, 21, 22, 23, 24, 25, 26, 27, 28, 29, 30, 31, 32, 33, 34, 35, 36, 37, 38, 39, 40, 41, 42, 43, 44] (by kernel_rfl) (fun _ _ _ h => h) hS (fun w' hSw => ?_) ?_
                rotate_left
                · obtain ⟨⟨b0, b1, b2⟩, b3, b4, b5, b6⟩ := hSw
                  unfold bareOp
                  go_simp
                  try with_reducible rfl
                simp only [Act.put, List.setIfInBounds_toArray, List.set_cons_zero, List.set_cons_succ]
                refine wpAnyB_onlyG (i := 11) (some 33) (Op.call { callee := Callee.value (Operand.func 60), args := #[Operand.tmp 30, Operand.tmp 32], argTypes := #[25, 22] }) 4 (some (6, false)) ⟨_, rfl, rfl, rfl, rfl, rfl⟩ (by kernel_rfl) rfl (fun K hK => ?_)
                unfold bareOp
                go_wp2_with (go_at_call 60; refine (rbelow_any _ (HDI.out.h2.keep HBW.out) HDI.out.n2 HB2.out).mono ?_; rintro e w8 ⟨rfl, rfl⟩)
                refine hK.out _ _ (fun _ => hS) ?_
                clear hK K
                try simp only [Act.put, List.setIfInBounds_toArray, List.set_cons_zero, List.set_cons_succ]
                refine wpAnyB_takePG (i := 12) (some 34) (Op.unOp UnOp.not 4 (Operand.tmp 33)) 4 (some (6, false)) (v := ?_) ⟨_, rfl, rfl, rfl, rfl, rfl⟩ rfl (by kernel_rfl) (by kernel_rfl) (by kernel_rfl) (by kernel_rfl) (fun _ _ _ h => h) (fun _ => hS) (fun w' => ?_) ?_
                rotate_left
                · unfold bareOp
                  go_simp
                  try with_reducible rfl
                simp only [Act.put, List.setIfInBounds_toArray, List.set_cons_zero, List.set_cons_succ]
                refine wpAnyB_takeP (i := 13) (some 35) (Op.pick (Operand.tmp 28) (Operand.const (Value.bool true)) (Operand.tmp 34)) 4 (v := ?_) ⟨_, rfl, rfl, rfl, rfl, rfl⟩ (by kernel_rfl) (by kernel_rfl) (by kernel_rfl) (by kernel_rfl) (fun _ _ _ h => h) (fun _ => hS) (fun w' => ?_) ?_
                rotate_left
                · unfold bareOp
                  go_simp
                  try with_reducible rfl
                simp only [Act.put, List.setIfInBounds_toArray, List.set_cons_zero, List.set_cons_succ]
                refine wpAnyB_takeP (i := 14) (some 36) (Op.move (Operand.tmp 35)) 4 (v := ?_) ⟨_, rfl, rfl, rfl, rfl, rfl⟩ (by kernel_rfl) (by kernel_rfl) (by kernel_rfl) (by kernel_rfl) (fun _ _ _ h => h) (fun _ => hS) (fun w' => ?_) ?_
                rotate_left
                · unfold bareOp
                  go_simp
                  try with_reducible rfl
                simp only [Act.put, List.setIfInBounds_toArray, List.set_cons_zero, List.set_cons_succ]
                refine wpAnyB_takePG (i := 15) (some 37) (Op.fieldAddr 27 (Operand.tmp 6) 1) 0 (some (14, false)) (v := ?_) ⟨_, rfl, rfl, rfl, rfl, rfl⟩ rfl (by kernel_rfl) (by kernel_rfl) (by kernel_rfl) (by kernel_rfl) (fun _ _ _ h => h) (fun _ => hS) (fun w' => ?_) ?_
                rotate_left
                · unfold bareOp
                  go_simp
                  try with_reducible rfl
                simp only [Act.put, List.setIfInBounds_toArray, List.set_cons_zero, List.set_cons_succ]
                refine wpAnyB_takeG (i := 16) (some 38) (Op.load 25 (Operand.tmp 37)) 25 (some (14, false)) (v := ?_) ⟨_, rfl, rfl, rfl, rfl, rfl⟩ rfl (by kernel_rfl) (by kernel_rfl) (by kernel_rfl) [17, 21, 22, 23, 24, 25, 26, 27, 28, 29, 30, 31, 32, 33, 34, 35, 36, 37, 38, 39, 40, 41, 42, 43, 44] (by kernel_rfl) (fun _ _ _ h => h) hS (fun w' hSw => ?_) ?_
                rotate_left
                · obtain ⟨⟨b0, b1, b2⟩, b3, b4, b5, b6⟩ := hSw
                  unfold bareOp
                  go_simp
                  try with_reducible rfl
                simp only [Act.put, List.setIfInBounds_toArray, List.set_cons_zero, List.set_cons_succ]
                refine wpAnyB_takePG (i := 17) (some 39) (Op.call { callee := Callee.builtin Builtin.len, args := #[Operand.tmp 38], argTypes := #[25] }) 3 (some (14, false)) (v := ?_) ⟨_, rfl, rfl, rfl, rfl, rfl⟩ rfl (by kernel_rfl) (by kernel_rfl) (by kernel_rfl) (by kernel_rfl) (fun _ _ _ h => h) (fun _ => hS) (fun w' => ?_) ?_
                rotate_left
                · unfold bareOp
                  go_simp
                  try with_reducible rfl
                simp only [Act.put, List.setIfInBounds_toArray, List.set_cons_zero, List.set_cons_succ]
                refine wpAnyB_takePG (i := 18) (some 40) (Op.fieldAddr 27 (Operand.tmp 6) 0) 0 (some (14, false)) (v := ?_) ⟨_, rfl, rfl, rfl, rfl, rfl⟩ rfl (by kernel_rfl) (by kernel_rfl) (by kernel_rfl) (by kernel_rfl) (fun _ _ _ h => h) (fun _ => hS) (fun w' => ?_) ?_
                rotate_left
                · unfold bareOp
                  go_simp
                  try with_reducible rfl
                simp only [Act.put, List.setIfInBounds_toArray, List.set_cons_zero, List.set_cons_succ]
                refine wpAnyB_takeG (i := 19) (some 41) (Op.load 25 (Operand.tmp 40)) 25 (some (14, false)) (v := ?_) ⟨_, rfl, rfl, rfl, rfl, rfl⟩ rfl (by kernel_rfl) (by kernel_rfl) (by kernel_rfl) [20, 21, 22, 23, 24, 25, 26, 27, 28, 29, 30, 31, 32, 33, 34, 35, 36, 37, 38, 39, 40, 41, 42, 43, 44] (by kernel_rfl) (fun _ _ _ h => h) hS (fun w' hSw => ?_) ?_
                rotate_left
                · obtain ⟨⟨b0, b1, b2⟩, b3, b4, b5, b6⟩ := hSw
                  unfold bareOp
                  go_simp
                  try with_reducible rfl
                simp only [Act.put, List.setIfInBounds_toArray, List.set_cons_zero, List.set_cons_succ]
                refine wpAnyB_takePG (i := 20) (some 42) (Op.call { callee := Callee.builtin Builtin.len, args := #[Operand.tmp 41], argTypes := #[25] }) 3 (some (14, false)) (v := ?_) ⟨_, rfl, rfl, rfl, rfl, rfl⟩ rfl (by kernel_rfl) (by kernel_rfl) (by kernel_rfl) (by kernel_rfl) (fun _ _ _ h => h) (fun _ => hS) (fun w' => ?_) ?_
                rotate_left
                · unfold bareOp
                  go_simp
                  try with_reducible rfl
                simp only [Act.put, List.setIfInBounds_toArray, List.set_cons_zero, List.set_cons_succ]
                refine wpAnyB_takePG (i := 21) (some 43) (Op.binOp BinOp.lss 3 (Operand.tmp 39) (Operand.tmp 42) 3) 4 (some (14, false)) (v := ?_) ⟨_, rfl, rfl, rfl, rfl, rfl⟩ rfl (by kernel_rfl) (by kernel_rfl) (by kernel_rfl) (by kernel_rfl) (fun _ _ _ h => h) (fun _ => hS) (fun w' => ?_) ?_
                rotate_left
                · unfold bareOp
                  go_simp
                  try with_reducible rfl
                simp only [Act.put, List.setIfInBounds_toArray, List.set_cons_zero, List.set_cons_succ]
                refine wpAnyB_takeP (i := 22) (some 44) (Op.pick (Operand.tmp 36) (Operand.const (Value.bool true)) (Operand.tmp 43)) 4 (v := ?_) ⟨_, rfl, rfl, rfl, rfl, rfl⟩ (by kernel_rfl) (by kernel_rfl) (by kernel_rfl) (by kernel_rfl) (fun _ _ _ h => h) (fun _ => hS) (fun w' => ?_) ?_
                rotate_left
                · unfold bareOp
                  go_simp
                  try with_reducible rfl
                simp only [Act.put, List.setIfInBounds_toArray, List.set_cons_zero, List.set_cons_succ]
                refine wpAnyB_takeP (i := 23) (some 45) (Op.move (Operand.tmp 44)) 4 (v := ?_) ⟨_, rfl, rfl, rfl, rfl, rfl⟩ (by kernel_rfl) (by kernel_rfl) (by kernel_rfl) (by kernel_rfl) (fun _ _ _ h => h) (fun _ => hS) (fun w' => ?_) ?_
                rotate_left
                · unfold bareOp
                  go_simp
                  try with_reducible rfl
                simp only [Act.put, List.setIfInBounds_toArray, List.set_cons_zero, List.set_cons_succ]
                refine wpAnyB_takePG (i := 24) (some 46) (Op.fieldAddr 27 (Operand.tmp 6) 0) 0 (some (23, false)) (v := ?_) ⟨_, rfl, rfl, rfl, rfl, rfl⟩ rfl (by kernel_rfl) (by kernel_rfl) (by kernel_rfl) (by kernel_rfl) (fun _ _ _ h => h) (fun _ => hS) (fun w' => ?_) ?_
                rotate_left
                · unfold bareOp
                  go_simp
                  try with_reducible rfl
                simp only [Act.put, List.setIfInBounds_toArray, List.set_cons_zero, List.set_cons_succ]
                refine wpAnyB_takeG (i := 25) (some 47) (Op.load 25 (Operand.tmp 46)) 25 (some (23, false)) (v := ?_) ⟨_, rfl, rfl, rfl, rfl, rfl⟩ rfl (by kernel_rfl) (by kernel_rfl) (by kernel_rfl) [26, 32, 33, 34, 35, 36, 37, 38, 39, 40, 41, 42, 43, 44] (by kernel_rfl) (fun _ _ _ h => h) hS (fun w' hSw => ?_) ?_
                rotate_left
                · obtain ⟨⟨b0, b1, b2⟩, b3, b4, b5, b6⟩ := hSw
                  unfold bareOp
                  go_simp
                  try with_reducible rfl
                simp only [Act.put, List.setIfInBounds_toArray, List.set_cons_zero, List.set_cons_succ]
                refine wpAnyB_takePG (i := 26) (some 48) (Op.call { callee := Callee.builtin Builtin.len, args := #[Operand.tmp 47], argTypes := #[25] }) 3 (some (23, false)) (v := ?_) ⟨_, rfl, rfl, rfl, rfl, rfl⟩ rfl (by kernel_rfl) (by kernel_rfl) (by kernel_rfl) (by kernel_rfl) (fun _ _ _ h => h) (fun _ => hS) (fun w' => ?_) ?_
                rotate_left
                · unfold bareOp
                  go_simp
                  try with_reducible rfl
                simp only [Act.put, List.setIfInBounds_toArray, List.set_cons_zero, List.set_cons_succ]
                refine wpAnyB_takePG (i := 27) (some 49) (Op.move (Operand.tmp 1)) 33 (some (23, false)) (v := ?_) ⟨_, rfl, rfl, rfl, rfl, rfl⟩ rfl (by kernel_rfl) (by kernel_rfl) (by kernel_rfl) (by kernel_rfl) (fun _ _ _ h => h) (fun _ => hS) (fun w' => ?_) ?_
                rotate_left
                · unfold bareOp
                  go_simp
                  try with_reducible rfl
                simp only [Act.put, List.setIfInBounds_toArray, List.set_cons_zero, List.set_cons_succ]
                refine wpAnyB_takePG (i := 28) (some 50) (Op.indexAddr 33 (Operand.tmp 49) (Operand.const (Value.int IntKind.i64 0))) 0 (some (23, false)) (v := ?_) ⟨_, rfl, rfl, rfl, rfl, rfl⟩ rfl (by kernel_rfl) (by kernel_rfl) (by kernel_rfl) (by kernel_rfl) (fun _ _ _ h => h) (fun _ => hS) (fun w' => ?_) ?_
                rotate_left
                · unfold bareOp
                  go_simp
                  try with_reducible rfl
                simp only [Act.put, List.setIfInBounds_toArray, List.set_cons_zero, List.set_cons_succ]
                refine wpAnyB_takePG (i := 29) (some 51) (Op.fieldAddr 27 (Operand.tmp 50) 0) 0 (some (23, false)) (v := ?_) ⟨_, rfl, rfl, rfl, rfl, rfl⟩ rfl (by kernel_rfl) (by kernel_rfl) (by kernel_rfl) (by kernel_rfl) (fun _ _ _ h => h) (fun _ => hS) (fun w' => ?_) ?_
                rotate_left
                · unfold bareOp
                  go_simp
                  try with_reducible rfl
                simp only [Act.put, List.setIfInBounds_toArray, List.set_cons_zero, List.set_cons_succ]
                refine wpAnyB_takeG (i := 30) (some 52) (Op.load 25 (Operand.tmp 51)) 25 (some (23, false)) (v := ?_) ⟨_, rfl, rfl, rfl, rfl, rfl⟩ rfl (by kernel_rfl) (by kernel_rfl) (by kernel_rfl) [31, 32, 33, 34, 35, 36, 37, 38, 39, 40, 41, 42, 43, 44] (by kernel_rfl) (fun _ _ _ h => h) hS (fun w' hSw => ?_) ?_
                rotate_left
                · obtain ⟨⟨b0, b1, b2⟩, b3, b4, b5, b6⟩ := hSw
                  unfold bareOp
                  go_simp
                  try with_reducible rfl
                simp only [Act.put, List.setIfInBounds_toArray, List.set_cons_zero, List.set_cons_succ]
                refine wpAnyB_takePG (i := 31) (some 53) (Op.call { callee := Callee.builtin Builtin.len, args := #[Operand.tmp 52], argTypes := #[25] }) 3 (some (23, false)) (v := ?_) ⟨_, rfl, rfl, rfl, rfl, rfl⟩ rfl (by kernel_rfl) (by kernel_rfl) (by kernel_rfl) (by kernel_rfl) (fun _ _ _ h => h) (fun _ => hS) (fun w' => ?_) ?_
                rotate_left
                · unfold bareOp
                  go_simp
                  try with_reducible rfl
                simp only [Act.put, List.setIfInBounds_toArray, List.set_cons_zero, List.set_cons_succ]
                refine wpAnyB_takePG (i := 32) (some 54) (Op.binOp BinOp.neq 3 (Operand.tmp 48) (Operand.tmp 53) 3) 4 (some (23, false)) (v := ?_) ⟨_, rfl, rfl, rfl, rfl, rfl⟩ rfl (by kernel_rfl) (by kernel_rfl) (by kernel_rfl) (by kernel_rfl) (fun _ _ _ h => h) (fun _ => hS) (fun w' => ?_) ?_
                rotate_left
                · unfold bareOp
                  go_simp
                  try with_reducible rfl
                simp only [Act.put, List.setIfInBounds_toArray, List.set_cons_zero, List.set_cons_succ]
                refine wpAnyB_takeP (i := 33) (some 55) (Op.pick (Operand.tmp 45) (Operand.const (Value.bool true)) (Operand.tmp 54)) 4 (v := ?_) ⟨_, rfl, rfl, rfl, rfl, rfl⟩ (by kernel_rfl) (by kernel_rfl) (by kernel_rfl) (by kernel_rfl) (fun _ _ _ h => h) (fun _ => hS) (fun w' => ?_) ?_
                rotate_left
                · unfold bareOp
                  go_simp
                  try with_reducible rfl
                simp only [Act.put, List.setIfInBounds_toArray, List.set_cons_zero, List.set_cons_succ]
                refine wpAnyB_takeP (i := 34) (some 56) (Op.move (Operand.tmp 55)) 4 (v := ?_) ⟨_, rfl, rfl, rfl, rfl, rfl⟩ (by kernel_rfl) (by kernel_rfl) (by kernel_rfl) (by kernel_rfl) (fun _ _ _ h => h) (fun _ => hS) (fun w' => ?_) ?_
                rotate_left
                · unfold bareOp
                  go_simp
                  try with_reducible rfl
                simp only [Act.put, List.setIfInBounds_toArray, List.set_cons_zero, List.set_cons_succ]
                refine wpAnyB_takePG (i := 35) (some 57) (Op.fieldAddr 27 (Operand.tmp 6) 1) 0 (some (34, false)) (v := ?_) ⟨_, rfl, rfl, rfl, rfl, rfl⟩ rfl (by kernel_rfl) (by kernel_rfl) (by kernel_rfl) (by kernel_rfl) (fun _ _ _ h => h) (fun _ => hS) (fun w' => ?_) ?_
                rotate_left
                · unfold bareOp
                  go_simp
                  try with_reducible rfl
                simp only [Act.put, List.setIfInBounds_toArray, List.set_cons_zero, List.set_cons_succ]
                refine wpAnyB_takeG (i := 36) (some 58) (Op.load 25 (Operand.tmp 57)) 25 (some (34, false)) (v := ?_) ⟨_, rfl, rfl, rfl, rfl, rfl⟩ rfl (by kernel_rfl) (by kernel_rfl) (by kernel_rfl) [37, 43, 44] (by kernel_rfl) (fun _ _ _ h => h) hS (fun w' hSw => ?_) ?_
                rotate_left
                · obtain ⟨⟨b0, b1, b2⟩, b3, b4, b5, b6⟩ := hSw
                  unfold bareOp
                  go_simp
                  try with_reducible rfl
                simp only [Act.put, List.setIfInBounds_toArray, List.set_cons_zero, List.set_cons_succ]
                refine wpAnyB_takePG (i := 37) (some 59) (Op.call { callee := Callee.builtin Builtin.len, args := #[Operand.tmp 58], argTypes := #[25] }) 3 (some (34, false)) (v := ?_) ⟨_, rfl, rfl, rfl, rfl, rfl⟩ rfl (by kernel_rfl) (by kernel_rfl) (by kernel_rfl) (by kernel_rfl) (fun _ _ _ h => h) (fun _ => hS) (fun w' => ?_) ?_
                rotate_left
                · unfold bareOp
                  go_simp
                  try with_reducible rfl
                simp only [Act.put, List.setIfInBounds_toArray, List.set_cons_zero, List.set_cons_succ]
                refine wpAnyB_takePG (i := 38) (some 60) (Op.move (Operand.tmp 1)) 33 (some (34, false)) (v := ?_) ⟨_, rfl, rfl, rfl, rfl, rfl⟩ rfl (by kernel_rfl) (by kernel_rfl) (by kernel_rfl) (by kernel_rfl) (fun _ _ _ h => h) (fun _ => hS) (fun w' => ?_) ?_
                rotate_left
                · unfold bareOp
                  go_simp
                  try with_reducible rfl
                simp only [Act.put, List.setIfInBounds_toArray, List.set_cons_zero, List.set_cons_succ]
                refine wpAnyB_takePG (i := 39) (some 61) (Op.indexAddr 33 (Operand.tmp 60) (Operand.const (Value.int IntKind.i64 0))) 0 (some (34, false)) (v := ?_) ⟨_, rfl, rfl, rfl, rfl, rfl⟩ rfl (by kernel_rfl) (by kernel_rfl) (by kernel_rfl) (by kernel_rfl) (fun _ _ _ h => h) (fun _ => hS) (fun w' => ?_) ?_
                rotate_left
                · unfold bareOp
                  go_simp
                  try with_reducible rfl
                simp only [Act.put, List.setIfInBounds_toArray, List.set_cons_zero, List.set_cons_succ]
                refine wpAnyB_takePG (i := 40) (some 62) (Op.fieldAddr 27 (Operand.tmp 61) 1) 0 (some (34, false)) (v := ?_) ⟨_, rfl, rfl, rfl, rfl, rfl⟩ rfl (by kernel_rfl) (by kernel_rfl) (by kernel_rfl) (by kernel_rfl) (fun _ _ _ h => h) (fun _ => hS) (fun w' => ?_) ?_
                rotate_left
                · unfold bareOp
                  go_simp
                  try with_reducible rfl
                simp only [Act.put, List.setIfInBounds_toArray, List.set_cons_zero, List.set_cons_succ]
                refine wpAnyB_takeG (i := 41) (some 63) (Op.load 25 (Operand.tmp 62)) 25 (some (34, false)) (v := ?_) ⟨_, rfl, rfl, rfl, rfl, rfl⟩ rfl (by kernel_rfl) (by kernel_rfl) (by kernel_rfl) [42, 43, 44] (by kernel_rfl) (fun _ _ _ h => h) hS (fun w' hSw => ?_) ?_
                rotate_left
                · obtain ⟨⟨b0, b1, b2⟩, b3, b4, b5, b6⟩ := hSw
                  unfold bareOp
                  go_simp
                  try with_reducible rfl
                simp only [Act.put, List.setIfInBounds_toArray, List.set_cons_zero, List.set_cons_succ]
                refine wpAnyB_takePG (i := 42) (some 64) (Op.call { callee := Callee.builtin Builtin.len, args := #[Operand.tmp 63], argTypes := #[25] }) 3 (some (34, false)) (v := ?_) ⟨_, rfl, rfl, rfl, rfl, rfl⟩ rfl (by kernel_rfl) (by kernel_rfl) (by kernel_rfl) (by kernel_rfl) (fun _ _ _ h => h) (fun _ => hS) (fun w' => ?_) ?_
                rotate_left
                · unfold bareOp
                  go_simp
                  try with_reducible rfl
                simp only [Act.put, List.setIfInBounds_toArray, List.set_cons_zero, List.set_cons_succ]
                refine wpAnyB_takePG (i := 43) (some 65) (Op.binOp BinOp.neq 3 (Operand.tmp 59) (Operand.tmp 64) 3) 4 (some (34, false)) (v := ?_) ⟨_, rfl, rfl, rfl, rfl, rfl⟩ rfl (by kernel_rfl) (by kernel_rfl) (by kernel_rfl) (by kernel_rfl) (fun _ _ _ h => h) (fun _ => hS) (fun w' => ?_) ?_
                rotate_left
                · unfold bareOp
                  go_simp
                  try with_reducible rfl
                simp only [Act.put, List.setIfInBounds_toArray, List.set_cons_zero, List.set_cons_succ]
                refine wpAnyB_only (i := 44) (some 66) (Op.pick (Operand.tmp 56) (Operand.const (Value.bool true)) (Operand.tmp 65)) 4 ⟨_, rfl, rfl, rfl, rfl, rfl⟩ (by kernel_rfl) (fun K hK => ?_)
                unfold bareOp
                go_wp2_with fail
                refine hK.out _ _ (fun h => absurd (h.symm.trans (by kernel_rfl : _ = true)) (by decide)) ?_
                clear hK K
                try simp only [Act.put, List.setIfInBounds_toArray, List.set_cons_zero, List.set_cons_succ]
                refine wpAnyB_done (by kernel_rfl) ?_ _
                clear hS
                go_wp2_with fail
                go_roundw
                case rel => exact ⟨i + 1, by omega, by go_num, HA2.out, F_g.out, HBW.out⟩
                case measure => simp [intOf] <;> omega
end Go.Proofs.Ytjfaaicbojnpaaa
