/- Folded: MrgF, MrgG, MrgL. -/
import Derived.Test.YtjfaaicbojnpaaaMg1
import Derived.Lib.SmallJoins
import Derived.Test.YtjfaaicbojnpaaaAux34
import Derived.Test.YtjfaaicbojnpaaaDealB
/- The reference's merge of deals. -/
namespace Go.Proofs.Ytjfaaicbojnpaaa
open Go.RowKit Num
set_option linter.unusedSimpArgs false
set_option linter.unusedVariables false

/-- A deal of the call's own: two rows apart. -/
def RetTwo (w : World) (n m : Nat) (xs ys : List Int) (e : Ending) (w' : World) : Prop :=
  ∃ g1 g2 ca cb : Nat, e = .returned (.agg #[.slice (some ⟨g1, 0, none⟩) n ca, .slice (some ⟨g2, 0, none⟩) m cb]) ∧ OwnN w' w.heap.size g1 n ca xs ∧ OwnN w' w.heap.size g2 m cb ys ∧ g1 ≠ g2 ∧ Below w.heap.size w w'
set_option maxRecDepth 100000 in
set_option maxHeartbeats 4000000 in
theorem rtwin_two {a b : Option Addr} {n c m d : Nat} {xs ys : List Int} (w : World) (h1 : ShI .u64 w a n xs) (h2 : ShI .u64 w b m ys) (k1 : 1 ≤ n) (k2 : 1 ≤ m) (hn : n ≤ 10000) (hm : m ≤ 10000) :
    Calls Try.prog 14 #[.agg #[.slice a n c, .slice b m d]] w (RetTwo w n m xs ys) := by
  have H1 := Lib.hid h1
  have H2 := Lib.hid h2
  have HEL1 := Lib.hid h1.len
  have HEL2 := Lib.hid h2.len
  clear h1 h2
  have F_x := Lib.hid (show DealBox ((w.alloc (.cells #[.slice a n c, .slice b m d] 27)).alloc (.cells #[.slice none 0 0, .slice none 0 0] 27)) w.heap.size (.slice a n c) (.slice b m d) from (DealBox.at _ _ _ _ w.heap.size (by simp)).alloc _)
  have F_r := Lib.hid (show DealBox ((w.alloc (.cells #[.slice a n c, .slice b m d] 27)).alloc (.cells #[.slice none 0 0, .slice none 0 0] 27)) (w.heap.size + 1) (.slice none 0 0) (.slice none 0 0) from DealBox.at _ _ _ _ (w.heap.size + 1) (by simp))
  have HBW := Lib.hid (show Below w.heap.size w ((w.alloc (.cells #[.slice a n c, .slice b m d] 27)).alloc (.cells #[.slice none 0 0, .slice none 0 0] 27)) from ((Below.refl _ _).alloc (by simp <;> omega) _).alloc (by simp <;> omega) _)
  go_enter Try.func14, Try.ntmps14
  go_wp2_with fail
  replace F_x := Lib.hid F_x.out.drew
  replace F_r := Lib.hid F_r.out.drew
  replace HBW := Lib.hid HBW.out.drew
  have hS := And.intro F_x.out.c0 F_x.out.c1
  refine wp_region_stage 7 (fun w' => w'.cell? ⟨w.heap.size, 0, none⟩ = some (.slice a n c) ∧ w'.cell? ⟨w.heap.size, 1, none⟩ = some (.slice b m d)) (by kernel_rfl) ?_
  refine wpAnyB_takeP (i := 0) (some 3) (Op.fieldAddr 27 (Operand.tmp 1) 0) 0 (v := ?_) ⟨_, rfl, rfl, rfl, rfl, rfl⟩ (by kernel_rfl) (by kernel_rfl) (by kernel_rfl) (by kernel_rfl) (fun _ _ _ h => h) (fun _ => hS) (fun w' => ?_) ?_
  rotate_left
  · unfold bareOp
    go_simp
    try with_reducible rfl
  simp only [Act.put, List.setIfInBounds_toArray, List.set_cons_zero, List.set_cons_succ]
  refine wpAnyB_take (i := 1) (some 4) (Op.load 25 (Operand.tmp 3)) 25 (v := ?_) ⟨_, rfl, rfl, rfl, rfl, rfl⟩ (by kernel_rfl) (by kernel_rfl) (by kernel_rfl) [2, 5, 6, 7] (by kernel_rfl) (fun _ _ _ h => h) hS (fun w' hSw => ?_) ?_
  rotate_left
  · obtain ⟨b3, b4⟩ := hSw
    unfold bareOp
    go_simp
    try with_reducible rfl
  simp only [Act.put, List.setIfInBounds_toArray, List.set_cons_zero, List.set_cons_succ]
  refine wpAnyB_takeP (i := 3) (some 6) (Op.fieldAddr 27 (Operand.tmp 1) 1) 0 (v := ?_) ⟨_, rfl, rfl, rfl, rfl, rfl⟩ (by kernel_rfl) (by kernel_rfl) (by kernel_rfl) (by kernel_rfl) (fun _ _ _ h => h) (fun _ => hS) (fun w' => ?_) ?_
  rotate_left
  · unfold bareOp
    go_simp
    try with_reducible rfl
  simp only [Act.put, List.setIfInBounds_toArray, List.set_cons_zero, List.set_cons_succ]
  refine wpAnyB_take (i := 4) (some 7) (Op.load 25 (Operand.tmp 6)) 25 (v := ?_) ⟨_, rfl, rfl, rfl, rfl, rfl⟩ (by kernel_rfl) (by kernel_rfl) (by kernel_rfl) [5, 6, 7] (by kernel_rfl) (fun _ _ _ h => h) hS (fun w' hSw => ?_) ?_
  rotate_left
  · obtain ⟨b3, b4⟩ := hSw
    unfold bareOp
    go_simp
    try with_reducible rfl
  simp only [Act.put, List.setIfInBounds_toArray, List.set_cons_zero, List.set_cons_succ]
  refine wpAnyB_only (i := 2) (some 5) (Op.call { callee := Callee.value (Operand.func 18), args := #[Operand.tmp 4], argTypes := #[25] }) 25 ⟨_, rfl, rfl, rfl, rfl, rfl⟩ (by kernel_rfl) (fun K hK => ?_)
  unfold bareOp
  go_wp2_with fail
  have hz1 := F_r.out.lt
  refine (rtwin64_own _ (H1.out.keep HBW.out) k1 (by omega)).mono ?_
  rintro e w8 ⟨v1, rfl, ho1, hb1⟩
  obtain ⟨g1, c1_, rfl, hn1⟩ := ho1.of2 HEL1.out k1
  have hg1 := hn1.lt
  replace F_x := Lib.hid (F_x.out.keep hb1)
  replace F_r := Lib.hid (F_r.out.keep hb1)
  replace HBW := Lib.hid (HBW.out.trans (hb1.mono HBW.out.size))
  replace hS := And.intro F_x.out.c0 F_x.out.c1
  have F_1 := Lib.hid (hn1.mono (n₀ := w.heap.size + 2) (Nat.succ_le_of_lt hz1))
  clear hb1 ho1 hn1
  refine hK.out _ _ (fun _ => hS) ?_
  clear hK K
  try simp only [Act.put, List.setIfInBounds_toArray, List.set_cons_zero, List.set_cons_succ]
  refine wpAnyB_only (i := 5) (some 8) (Op.call { callee := Callee.value (Operand.func 18), args := #[Operand.tmp 7], argTypes := #[25] }) 25 ⟨_, rfl, rfl, rfl, rfl, rfl⟩ (by kernel_rfl) (fun K hK => ?_)
  unfold bareOp
  go_wp2_with fail
  have hz2 := F_r.out.lt
  refine (rtwin64_own _ (H2.out.keep HBW.out) k2 (by omega)).mono ?_
  rintro e w9 ⟨v2, rfl, ho2, hb2⟩
  obtain ⟨g2, c2_, rfl, hn2⟩ := ho2.of2 HEL2.out k2
  have hg2 := hn2.lt
  replace F_x := Lib.hid (F_x.out.keep hb2)
  replace F_r := Lib.hid (F_r.out.keep hb2)
  replace F_1 := Lib.hid (F_1.out.keep hb2)
  replace HBW := Lib.hid (HBW.out.trans (hb2.mono HBW.out.size))
  replace hS := And.intro F_x.out.c0 F_x.out.c1
  have F_2 := Lib.hid (hn2.mono (n₀ := w.heap.size + 2) (Nat.succ_le_of_lt hz2))
  clear hb2 ho2 hn2
  refine hK.out _ _ (fun _ => hS) ?_
  clear hK K
  try simp only [Act.put, List.setIfInBounds_toArray, List.set_cons_zero, List.set_cons_succ]
  refine wpAnyB_takeP (i := 6) (some 9) (Op.build 27 #[(0, Operand.tmp 5), (1, Operand.tmp 8)]) 27 (v := ?_) ⟨_, rfl, rfl, rfl, rfl, rfl⟩ (by kernel_rfl) (by kernel_rfl) (by kernel_rfl) (by kernel_rfl) (fun _ _ _ h => h) (fun _ => hS) (fun w' => ?_) ?_
  rotate_left
  · unfold bareOp
    go_simp
    try with_reducible rfl
  simp only [Act.put, List.setIfInBounds_toArray, List.set_cons_zero, List.set_cons_succ]
  refine wpAnyB_only (i := 7) none (Op.store 27 (Operand.tmp 2) (Operand.tmp 9)) 0 ⟨_, rfl, rfl, rfl, rfl, rfl⟩ (by kernel_rfl) (fun K hK => ?_)
  unfold bareOp
  obtain ⟨za, zb, zc, zd, -⟩ := id F_r.out
  go_wp2_with fail
  refine hK.out _ _ (fun h => absurd (h.symm.trans (by kernel_rfl : _ = true)) (by decide)) ?_
  clear hK K
  try simp only [Act.put, List.setIfInBounds_toArray, List.set_cons_zero, List.set_cons_succ]
  refine wpAnyB_done (by kernel_rfl) ?_ _
  clear hS
  go_wp2_with fail
  exact bodyPost_ret (res_deal1 rfl (F_r.out.stored _ _) _ rfl) rfl ⟨_, _, _, _, rfl, ((F_1.out.far (b := w.heap.size + 1) (o := 0) (by have := F_1.out.lt; omega) _).far (b := w.heap.size + 1) (o := 1) (by have := F_1.out.lt; omega) _).mono (by omega), ((F_2.out.far (b := w.heap.size + 1) (o := 0) (by have := F_2.out.lt; omega) _).far (b := w.heap.size + 1) (o := 1) (by have := F_2.out.lt; omega) _).mono (by omega), (by omega), (HBW.out.setCell (p := ⟨w.heap.size + 1, 0, none⟩) (by show w.heap.size ≤ w.heap.size + 1; omega) _).setCell (p := ⟨w.heap.size + 1, 1, none⟩) (by show w.heap.size ≤ w.heap.size + 1; omega) _⟩

/-- The memory of the reference's merge under way. -/
structure MrgR (w wx : World) (P Q G : Int) (B g1 g2 n m ca cb : Nat) (ps ss : List Int) : Prop where
  box : DealBox wx B (.slice (some ⟨g1, 0, none⟩) n ca) (.slice (some ⟨g2, 0, none⟩) m cb)
  r1 : OwnN wx (w.heap.size + 2) g1 n ca ps
  r2 : OwnN wx (w.heap.size + 2) g2 m cb ss
  n1 : B ≠ g1
  n2 : B ≠ g2
  n3 : g1 ≠ g2
  ge : w.heap.size + 2 ≤ B
  g : Boxed wx w.heap.size P Q G
  b : DealBox wx (w.heap.size + 1) (.slice none 0 0) (.slice none 0 0)
  bel : Below w.heap.size w wx
section
variable {w wx wy : World} {P Q G : Int} {B g1 g2 n m ca cb : Nat} {ps ss : List Int}
theorem MrgR.keep (h : MrgR w wx P Q G B g1 g2 n m ca cb ps ss) (hb : Below wx.heap.size wx wy) : MrgR w wy P Q G B g1 g2 n m ca cb ps ss :=
  ⟨h.box.keep hb, h.r1.keep hb, h.r2.keep hb, h.n1, h.n2, h.n3, h.ge, h.g.keep hb, h.b.keep hb, h.bel.trans (hb.mono h.bel.size)⟩
theorem MrgR.drew (h : MrgR w wx P Q G B g1 g2 n m ca cb ps ss) : MrgR w wx.drew P Q G B g1 g2 n m ca cb ps ss := h.keep (Below.refl _ _).drew
theorem MrgR.set1 (h : MrgR w wx P Q G B g1 g2 n m ca cb ps ss) (k : Nat) (v : Int) : MrgR w (wx.setCell ⟨g1, k, none⟩ (.int .u64 v)) P Q G B g1 g2 n m ca cb (ps.set k v) ss := by
  have hl := h.r1.lt.1
  exact ⟨h.box.far1 (Ne.symm h.n1), h.r1.set v, h.r2.far h.n3 _, h.n1, h.n2, h.n3, h.ge, h.g.far (by omega) _, h.b.far1 (by omega), h.bel.setCell (by show w.heap.size ≤ g1; omega) _⟩
theorem MrgR.set2 (h : MrgR w wx P Q G B g1 g2 n m ca cb ps ss) (k : Nat) (v : Int) : MrgR w (wx.setCell ⟨g2, k, none⟩ (.int .u64 v)) P Q G B g1 g2 n m ca cb ps (ss.set k v) := by
  have hl := h.r2.lt.1
  exact ⟨h.box.far1 (Ne.symm h.n2), h.r1.far (Ne.symm h.n3) _, h.r2.set v, h.n1, h.n2, h.n3, h.ge, h.g.far (by omega) _, h.b.far1 (by omega), h.bel.setCell (by show w.heap.size ≤ g2; omega) _⟩
end

set_option maxRecDepth 100000 in
set_option maxHeartbeats 8000000 in
theorem rmerge_any {P Q G er : Int} {s o k cap : Nat} {l : List Dl} {E : Dl} {ps ss : List Int} (w : World) (hP : 0 ≤ P) (hQ : 0 ≤ Q) (hG : 0 ≤ G) (hr : DRow w s o l) (h0 : l[0]? = some E) (hk : k = l.length) (hk2 : 2 ≤ k) (hk8 : k ≤ 8) (hv : mergeS P Q G l = (er, ps, ss)) :
    Calls Try.prog 16 #[.agg #[.int .u64 P, .int .u64 Q, .int .u64 G], .slice (some ⟨s, o, none⟩) k cap] w (RetDeal w er ps ss) := by
  have HR := Lib.hid hr
  have HE := Lib.hid h0
  obtain ⟨h1, hE⟩ := List.getElem?_eq_some_iff.1 h0
  have HE0 := Lib.hid (show w.cell? ⟨s, o, none⟩ = some (.slice E.a E.n E.c) by have := (hr.c 0 h1).1; rwa [hE, Nat.zero_mul, Nat.add_zero] at this)
  have HE1 := Lib.hid (show w.cell? ⟨s, o + 1, none⟩ = some (.slice E.b E.m E.d) by have := (hr.c 0 h1).2; rwa [hE, Nat.zero_mul, Nat.add_zero] at this)
  have HEI := Lib.hid (show DlIn w E by rw [← hE]; exact hr.ok _ (List.getElem_mem h1))
  have HEL1 := Lib.hid HEI.out.h1.len
  have HEL2 := Lib.hid HEI.out.h2.len
  have hs := hr.lt
  have c26 : Try.prog.cellsOf 27 = 2 := by kernel_rfl
  have hk0 : (0 : Int) < (k : Int) := by omega
  have hk00 : 0 < k := by omega
  obtain ⟨t, rfl⟩ : ∃ t, l = E :: t := by
    cases l with
    | nil => simp at h1
    | cons a t => exact ⟨t, by simp at hE; rw [hE]⟩
  have HKL := Lib.hid hk
  have HK8 := Lib.hid (show k ≤ 8 from hk8)
  clear hr h0 hE h1 hk
  by_cases hH : Has P Q G
  case neg =>
    obtain ⟨rfl, hps0⟩ := Prod.mk.inj (show (300, [], []) = (er, ps, ss) by rw [← hv]; simp [mergeS, hH])
    obtain ⟨rfl, rfl⟩ := Prod.mk.inj hps0
    have HAK := Lib.hid (askS_no (es := []) (ns := []) hH)
    clear hv hH hps0
    have F_g := Lib.hid (show Boxed ((w.alloc (.cells #[.int .u64 P, .int .u64 Q, .int .u64 G] 24)).alloc (.cells #[.slice none 0 0, .slice none 0 0] 27)) w.heap.size P Q G from (Boxed.at _ P Q G _ w.heap.size (by simp)).alloc _)
    have F_b := Lib.hid (show DealBox ((w.alloc (.cells #[.int .u64 P, .int .u64 Q, .int .u64 G] 24)).alloc (.cells #[.slice none 0 0, .slice none 0 0] 27)) (w.heap.size + 1) (.slice none 0 0) (.slice none 0 0) from DealBox.at _ _ _ _ (w.heap.size + 1) (by simp))
    have HBW := Lib.hid (show Below w.heap.size w ((w.alloc (.cells #[.int .u64 P, .int .u64 Q, .int .u64 G] 24)).alloc (.cells #[.slice none 0 0, .slice none 0 0] 27)) from ((Below.refl _ _).alloc (by simp <;> omega) _).alloc (by simp <;> omega) _)
    go_enter Try.func16, Try.ntmps16
    obtain ⟨g0, g1', g2', -⟩ := id F_g.out
    obtain ⟨y0, y1, y2, y3, -⟩ := id F_b.out
    go_wp2_with fail
    clear g0 g1' g2' y0 y1 y2 y3
    refine (rAsked_any _ hP hQ hG (ShL.nil _) (ShL.nil _) (by simp) (by simp) HAK.out).mono ?_
    rintro e w1 ⟨rfl, hb1⟩
    replace F_g := Lib.hid (F_g.out.keep hb1)
    replace F_b := Lib.hid (F_b.out.keep hb1)
    replace HBW := Lib.hid (HBW.out.trans (hb1.mono HBW.out.size))
    clear hb1
    obtain ⟨g0, g1', g2', -⟩ := id F_g.out
    obtain ⟨y0, y1, y2, y3, -⟩ := id F_b.out
    go_wp2_with fail
    clear g0 g1' g2' y0 y1 y2 y3
    exact bodyPost_ret (res_deal rfl (F_b.out.stored (.slice none 0 0) (.slice none 0 0)) _ rfl rfl rfl rfl) rfl ⟨_, _, rfl, OwnU.nil _ _, OwnU.nil _ _, (HBW.out.setCell (p := ⟨w.heap.size + 1, 0, none⟩) (by show w.heap.size ≤ w.heap.size + 1; omega) _).setCell (p := ⟨w.heap.size + 1, 1, none⟩) (by show w.heap.size ≤ w.heap.size + 1; omega) _⟩
  case pos =>
    obtain ⟨p5, p3, hQ', pq, g2', gP⟩ := id hH
    have q3 : Q < 1073741824 := by omega
    have q1 : 1 < Q := by omega
    have HH := Lib.hid hH
    have HAK := Lib.hid (show askS P Q G [] [] = 0 from askS_ok hH (by simp) (by simp))
    clear pq
    cases hm : mallS P Q E (E :: t) with
    | false =>
      obtain ⟨rfl, hps0⟩ := Prod.mk.inj (show (2, [], []) = (er, ps, ss) by rw [← hv]; simp [mergeS, hH, hm])
      obtain ⟨rfl, rfl⟩ := Prod.mk.inj hps0
      have HMA := Lib.hid hm
      clear hv hH hps0 hm
      have F_g := Lib.hid (show Boxed ((w.alloc (.cells #[.int .u64 P, .int .u64 Q, .int .u64 G] 24)).alloc (.cells #[.slice none 0 0, .slice none 0 0] 27)) w.heap.size P Q G from (Boxed.at _ P Q G _ w.heap.size (by simp)).alloc _)
      have F_b := Lib.hid (show DealBox ((w.alloc (.cells #[.int .u64 P, .int .u64 Q, .int .u64 G] 24)).alloc (.cells #[.slice none 0 0, .slice none 0 0] 27)) (w.heap.size + 1) (.slice none 0 0) (.slice none 0 0) from DealBox.at _ _ _ _ (w.heap.size + 1) (by simp))
      have HBW := Lib.hid (show Below w.heap.size w ((w.alloc (.cells #[.int .u64 P, .int .u64 Q, .int .u64 G] 24)).alloc (.cells #[.slice none 0 0, .slice none 0 0] 27)) from ((Below.refl _ _).alloc (by simp <;> omega) _).alloc (by simp <;> omega) _)
      go_enter Try.func16, Try.ntmps16
      obtain ⟨g0, g1', g2', -⟩ := id F_g.out
      obtain ⟨y0, y1, y2, y3, -⟩ := id F_b.out
      go_wp2_with fail
      clear g0 g1' g2' y0 y1 y2 y3
      refine (rAsked_any _ hP hQ hG (ShL.nil _) (ShL.nil _) (by simp) (by simp) HAK.out).mono ?_
      rintro e w1 ⟨rfl, hb1⟩
      replace F_g := Lib.hid (F_g.out.keep hb1)
      replace F_b := Lib.hid (F_b.out.keep hb1)
      replace HBW := Lib.hid (HBW.out.trans (hb1.mono HBW.out.size))
      clear hb1
      obtain ⟨g0, g1', g2', -⟩ := id F_g.out
      obtain ⟨y0, y1, y2, y3, -⟩ := id F_b.out
      go_wp2_with fail
      clear g0 g1' g2' y0 y1 y2 y3
      refine (rmergeable_any _ (HR.out.keep HBW.out) HE.out HKL.out (by omega) (by omega)).mono ?_
      rintro e w2 ⟨rfl, hb2⟩
      replace F_g := Lib.hid (F_g.out.keep hb2)
      replace F_b := Lib.hid (F_b.out.keep hb2)
      replace HBW := Lib.hid (HBW.out.trans (hb2.mono HBW.out.size))
      clear hb2
      rw [HMA.out]
      obtain ⟨g0, g1', g2', -⟩ := id F_g.out
      obtain ⟨y0, y1, y2, y3, -⟩ := id F_b.out
      go_wp2_with fail
      clear g0 g1' g2' y0 y1 y2 y3
      exact bodyPost_ret (res_deal rfl (F_b.out.stored (.slice none 0 0) (.slice none 0 0)) _ rfl rfl rfl rfl) rfl ⟨_, _, rfl, OwnU.nil _ _, OwnU.nil _ _, (HBW.out.setCell (p := ⟨w.heap.size + 1, 0, none⟩) (by show w.heap.size ≤ w.heap.size + 1; omega) _).setCell (p := ⟨w.heap.size + 1, 1, none⟩) (by show w.heap.size ≤ w.heap.size + 1; omega) _⟩
    | true =>
      obtain ⟨rfl, hps0⟩ := Prod.mk.inj (show (0, mrgP P E.xs t, mrgQ Q E.ys t) = (er, ps, ss) by
        rw [← hv]; simp only [mergeS, hH, hm, if_true, Bool.and_true]
        rw [decide_eq_true (by rw [← HKL.out]; exact hk8)]; rfl)
      obtain ⟨rfl, rfl⟩ := Prod.mk.inj hps0
      have HMA := Lib.hid hm
      have hEf := fits_true (List.all_eq_true.1 hm E (by simp))
      have b1 := belowS_true hEf.1
      have b2 := belowS_true hEf.2.1
      have en1 : 1 ≤ E.n := by rw [HEL1.out]; exact b1.1
      have en2 : 1 ≤ E.m := by rw [HEL2.out]; exact b2.1
      have en8 : E.n ≤ 8 := by rw [HEL1.out]; exact b1.2.1
      have em8 : E.m ≤ 8 := by rw [HEL2.out]; exact b2.2.1
      clear hv hH hps0 hm hEf b1 b2
      have F_g := Lib.hid (show Boxed ((w.alloc (.cells #[.int .u64 P, .int .u64 Q, .int .u64 G] 24)).alloc (.cells #[.slice none 0 0, .slice none 0 0] 27)) w.heap.size P Q G from (Boxed.at _ P Q G _ w.heap.size (by simp)).alloc _)
      have F_b := Lib.hid (show DealBox ((w.alloc (.cells #[.int .u64 P, .int .u64 Q, .int .u64 G] 24)).alloc (.cells #[.slice none 0 0, .slice none 0 0] 27)) (w.heap.size + 1) (.slice none 0 0) (.slice none 0 0) from DealBox.at _ _ _ _ (w.heap.size + 1) (by simp))
      have HBW := Lib.hid (show Below w.heap.size w ((w.alloc (.cells #[.int .u64 P, .int .u64 Q, .int .u64 G] 24)).alloc (.cells #[.slice none 0 0, .slice none 0 0] 27)) from ((Below.refl _ _).alloc (by simp <;> omega) _).alloc (by simp <;> omega) _)
      go_enter Try.func16, Try.ntmps16
      obtain ⟨g0, g1', g2', -⟩ := id F_g.out
      obtain ⟨y0, y1, y2, y3, -⟩ := id F_b.out
      go_wp2_with fail
      clear g0 g1' g2' y0 y1 y2 y3
      refine (rAsked_any _ hP hQ hG (ShL.nil _) (ShL.nil _) (by simp) (by simp) HAK.out).mono ?_
      rintro e w1 ⟨rfl, hb1⟩
      replace F_g := Lib.hid (F_g.out.keep hb1)
      replace F_b := Lib.hid (F_b.out.keep hb1)
      replace HBW := Lib.hid (HBW.out.trans (hb1.mono HBW.out.size))
      clear hb1
      obtain ⟨g0, g1', g2', -⟩ := id F_g.out
      obtain ⟨y0, y1, y2, y3, -⟩ := id F_b.out
      go_wp2_with fail
      clear g0 g1' g2' y0 y1 y2 y3
      refine (rmergeable_any _ (HR.out.keep HBW.out) HE.out HKL.out (by omega) (by omega)).mono ?_
      rintro e w2 ⟨rfl, hb2⟩
      replace F_g := Lib.hid (F_g.out.keep hb2)
      replace F_b := Lib.hid (F_b.out.keep hb2)
      replace HBW := Lib.hid (HBW.out.trans (hb2.mono HBW.out.size))
      clear hb2
      rw [HMA.out]
      have hc0 := (HBW.out.cell (p := ⟨s, o, none⟩) hs).trans HE0.out
      have hc1 := (HBW.out.cell (p := ⟨s, o + 1, none⟩) hs).trans HE1.out
      obtain ⟨g0, g1', g2', -⟩ := id F_g.out
      obtain ⟨y0, y1, y2, y3, -⟩ := id F_b.out
      go_wp2_with fail
      clear g0 g1' g2' y0 y1 y2 y3
      clear hc0 hc1
      have hzb := F_b.out.lt
      refine (rtwin_two _ (HEI.out.h1.keep HBW.out) (HEI.out.h2.keep HBW.out) en1 en2 (by omega) (by omega)).mono ?_
      rintro e wT ⟨g1, g2, ca, cb, rfl, O1_, O2_, hn12, hbT⟩
      have O1 := Lib.hid (O1_.mono (n₀ := w.heap.size + 2) (Nat.succ_le_of_lt hzb))
      have O2 := Lib.hid (O2_.mono (n₀ := w.heap.size + 2) (Nat.succ_le_of_lt hzb))
      replace F_g := Lib.hid (F_g.out.keep hbT)
      replace F_b := Lib.hid (F_b.out.keep hbT)
      replace HBW := Lib.hid (HBW.out.trans (hbT.mono HBW.out.size))
      clear O1_ O2_ hbT hzb
      have hzb := F_b.out.lt
      have hzg := F_g.out.lt
      obtain ⟨y0, y1, y2, y3, -⟩ := id F_b.out
      obtain ⟨g0, g1', g2', -⟩ := id F_g.out
      go_wp2_with fail
      clear y0 y1 y2 y3 g0 g1' g2'
      have HM := Lib.hid (MrgR.mk (w := w) (DealBox.at wT (.slice (some ⟨g1, 0, none⟩) E.n ca) (.slice (some ⟨g2, 0, none⟩) E.m cb) 27 wT.heap.size rfl) (O1.out.alloc _) (O2.out.alloc _) (by have := O1.out.lt; omega) (by have := O2.out.lt; omega) hn12 (by omega) (F_g.out.alloc _) (F_b.out.alloc _) (HBW.out.alloc HBW.out.size _))
      clear O1 O2 F_g F_b HBW hn12
      generalize wT.alloc (.cells #[.slice (some ⟨g1, 0, none⟩) E.n ca, .slice (some ⟨g2, 0, none⟩) E.m cb] 27) = wU at HM ⊢
      clear hzg
      have hBg := HM.out.ge
      generalize wT.heap.size = B at HM hBg hzb ⊢
      clear hzb
      have HEX1 := Lib.hid (belowS_bd (fits_true (List.all_eq_true.1 HMA.out E (by simp))).1 HEI.out.u1)
      have HEX2 := Lib.hid (belowS_bd (fits_true (List.all_eq_true.1 HMA.out E (by simp))).2.1 HEI.out.u2)
      have HFT := Lib.hid (show ∀ D, D ∈ t → fitsS P Q D.xs D.ys E.xs E.ys = true from fun D hD => List.all_eq_true.1 HMA.out D (by simp [hD]))
      have HTL := Lib.hid (show t.length = k - 1 by have := HKL.out; simp at this; omega)
      go_loopw [8] (fun c8 wr => ∃ i : Nat, 1 ≤ i ∧ i ≤ k ∧ c8 = .int .i64 i ∧ Hid (MrgR w wr P Q G B g1 g2 E.n E.m ca cb (mrgP P E.xs (t.take (i - 1))) (mrgQ Q E.ys (t.take (i - 1))))) (fun c8 _ => k - (intOf c8).toNat)
      case atStart => exact ⟨1, Nat.le_refl _, by omega, rfl, HM.out⟩
      case round =>
        clear HM
        obtain ⟨i, hi1, hi, rfl, HM⟩ := hrel
        obtain ⟨wo, rfl⟩ : ∃ wo : World, wo = wr := ⟨_, rfl⟩
        by_cases hlt : i < k
        case neg =>
          rw [List.take_of_length_le (by rw [HTL.out]; omega)] at HM
          have hd : decide ((i : Int) < (k : Int)) = false := by simp; omega
          have hdn : decide (i < k) = false := by simpa using hlt
          obtain ⟨x0, x1, x2, x3, -⟩ := id HM.out.box
          obtain ⟨y0, y1, y2, y3, -⟩ := id HM.out.b
          go_wp2_with fail
          exact bodyPost_ret (res_deal rfl (HM.out.b.stored (.slice (some ⟨g1, 0, none⟩) E.n ca) (.slice (some ⟨g2, 0, none⟩) E.m cb)) _ rfl rfl rfl rfl) rfl ⟨_, _, rfl, (((HM.out.r1.far (b := w.heap.size + 1) (o := 0) (by have := HM.out.r1.lt; have := HM.out.r2.lt; omega) _).far (b := w.heap.size + 1) (o := 1) (by have := HM.out.r1.lt; have := HM.out.r2.lt; omega) _).mono (n₀ := w.heap.size) (by omega)).own, (((HM.out.r2.far (b := w.heap.size + 1) (o := 0) (by have := HM.out.r1.lt; have := HM.out.r2.lt; omega) _).far (b := w.heap.size + 1) (o := 1) (by have := HM.out.r1.lt; have := HM.out.r2.lt; omega) _).mono (n₀ := w.heap.size) (by omega)).own, (HM.out.bel.setCell (p := ⟨w.heap.size + 1, 0, none⟩) (by show w.heap.size ≤ w.heap.size + 1; omega) _).setCell (p := ⟨w.heap.size + 1, 1, none⟩) (by show w.heap.size ≤ w.heap.size + 1; omega) _⟩
        case pos =>
          have hd : decide ((i : Int) < (k : Int)) = true := by simp; omega
          have hdn : decide (i < k) = true := by simpa using hlt
          have hit : i - 1 < t.length := by rw [HTL.out]; omega
          obtain ⟨D, hD⟩ : ∃ D, t[i - 1] = D := ⟨_, rfl⟩
          have hil : i < (E :: t).length := by simp; omega
          have hDt : (E :: t)[i] = D := by
            obtain ⟨q, rfl⟩ : ∃ q, i = q + 1 := ⟨i - 1, by omega⟩
            simpa using hD
          have hDm : D ∈ t := by rw [← hD]; exact List.getElem_mem hit
          have HDC0_ := Lib.hid (show w.cell? ⟨s, o + i * 2, none⟩ = some (.slice D.a D.n D.c) by have := (HR.out.c i hil).1; rwa [hDt] at this)
          have HDC1_ := Lib.hid (show w.cell? ⟨s, o + i * 2 + 1, none⟩ = some (.slice D.b D.m D.d) by have := (HR.out.c i hil).2; rwa [hDt] at this)
          have HDI := Lib.hid (show DlIn w D from HR.out.ok D (by simp [hDm]))
          have HDF := Lib.hid (fits_true (HFT.out D hDm))
          have HTK := Lib.hid (show t.take i = t.take (i - 1) ++ [D] by
            rw [← hD, ← List.take_succ_eq_append_getElem hit, show i - 1 + 1 = i by omega])
          have hi0 : (0 : Int) ≤ (i : Int) := by omega
          have hlt1 : (i : Int) < (k : Int) := by omega
          have hwi : IntKind.i64.wrap ((i : Int) + 1) = (i : Int) + 1 := IntWalk.i64_in _ (by omega)
          have hDn : 1 ≤ D.n := by rw [HDI.out.h1.len]; exact (belowS_true HDF.out.1).1
          have hDm1 : 1 ≤ D.m := by rw [HDI.out.h2.len]; exact (belowS_true HDF.out.2.1).1
          have hDn8 : D.n ≤ 8 := by rw [HDI.out.h1.len]; exact (belowS_true HDF.out.1).2.1
          have hDm8 : D.m ≤ 8 := by rw [HDI.out.h2.len]; exact (belowS_true HDF.out.2.1).2.1
          obtain ⟨s3, o3, ha3, -, hs3, hcx⟩ := shI_some HDI.out.h1 hDn
          obtain ⟨s4, o4, hb3, -, hs4, hcy⟩ := shI_some HDI.out.h2 hDm1
          have HDC0 := Lib.hid (show w.cell? ⟨s, o + i * 2, none⟩ = some (.slice (some ⟨s3, o3, none⟩) D.n D.c) by rw [← ha3]; exact HDC0_.out)
          have HDC1 := Lib.hid (show w.cell? ⟨s, o + i * 2 + 1, none⟩ = some (.slice (some ⟨s4, o4, none⟩) D.m D.d) by rw [← hb3]; exact HDC1_.out)
          have HCX := Lib.hid hcx
          have HCY := Lib.hid hcy
          have HXR := Lib.hid (belowS_bd HDF.out.1 HDI.out.u1)
          have HYR := Lib.hid (belowS_bd HDF.out.2.1 HDI.out.u2)
          have HNX := Lib.hid (show D.n = D.xs.length from HDI.out.h1.len)
          have HNY := Lib.hid (show D.m = D.ys.length from HDI.out.h2.len)
          obtain ⟨os, hos⟩ : ∃ z, mrgP P E.xs (t.take (i - 1)) = z := ⟨_, rfl⟩
          obtain ⟨qs, hqs⟩ : ∃ z, mrgQ Q E.ys (t.take (i - 1)) = z := ⟨_, rfl⟩
          have HOK := Lib.hid (mrgP_ok (P := P) (by omega) (t.take (i - 1)) E.xs (fun F hF => (fits_true (HFT.out F (List.mem_of_mem_take hF))).2.2.2.1) HEX1.out)
          have HQK := Lib.hid (mrgQ_ok (P := Q) (by omega) (t.take (i - 1)) E.ys (fun F hF => (fits_true (HFT.out F (List.mem_of_mem_take hF))).2.2.2.2) HEX2.out)
          have HPN := Lib.hid (show mrgP P E.xs (t.take i) = List.zipWith (mulF P) os D.xs by rw [HTK.out, mrgP_snoc, hos])
          have HQN := Lib.hid (show mrgQ Q E.ys (t.take i) = List.zipWith (addF Q) qs D.ys by rw [HTK.out, mrgQ_snoc, hqs])
          rw [hos, hqs] at HM
          rw [hos] at HOK
          rw [hqs] at HQK
          clear hD hDt hDm hcx hcy ha3 hb3 hos hqs HDC0_ HDC1_
          go_wp2_with fail
          have F_m := HM
          have HLE := Lib.hid (show D.n = E.n by rw [HNX.out, HEL1.out]; exact HDF.out.2.2.2.1)
          have HLO := Lib.hid (show os.length = D.n by rw [HLE.out, HEL1.out]; exact HOK.out.1)
          go_loopw [9] (fun c9 wr => ∃ j : Nat, j ≤ D.n ∧ c9 = .int .i64 j ∧ ∃ p1 : List Int, Hid (OpIn (mulF P) os D.xs j p1) ∧ Hid (MrgR w wr P Q G B g1 g2 E.n E.m ca cb p1 qs)) (fun c9 _ => D.n - (intOf c9).toNat)
          case atStart => exact ⟨0, Nat.zero_le _, rfl, os, OpIn.start _ _ _, F_m.out⟩
          case round =>
            clear F_m
            obtain ⟨j, hj, rfl, p1, HO, F_m⟩ := hrel
            have HBW := Lib.hid F_m.out.bel
            obtain ⟨z0, z1, -⟩ := id F_m.out.box
            by_cases hjl : j < D.n
            case neg =>
              have HZ := Lib.hid (show p1 = List.zipWith (mulF P) os D.xs from HO.out.done (by rw [HLO.out]; omega) (by rw [HLO.out, HNX.out]))
              have hjn : ¬ ((j : Int) < (E.n : Int)) := by have := HLE.out; omega
              have hjd : decide ((j : Int) < (E.n : Int)) = false := by simpa using hjn
              have hjdn : decide (j < E.n) = false := by simpa using hjn
              have HZ1 := HZ
              clear HZ HLE HLO HO
              obtain ⟨os2, hos2⟩ : ∃ z, z = p1 := ⟨_, rfl⟩
              rw [← hos2] at F_m HZ1
              clear hos2
              go_wp2_with fail
              clear z0 z1 hjd hjdn hjn
              have HLE := Lib.hid (show D.m = E.m by rw [HNY.out, HEL2.out]; exact HDF.out.2.2.2.2)
              have HLO := Lib.hid (show qs.length = D.m by rw [HLE.out, HEL2.out]; exact HQK.out.1)
              go_loopw [10] (fun c9 wr => ∃ j : Nat, j ≤ D.m ∧ c9 = .int .i64 j ∧ ∃ p1 : List Int, Hid (OpIn (addF Q) qs D.ys j p1) ∧ Hid (MrgR w wr P Q G B g1 g2 E.n E.m ca cb os2 p1)) (fun c9 _ => D.m - (intOf c9).toNat)
              case atStart => exact ⟨0, Nat.zero_le _, rfl, qs, OpIn.start _ _ _, F_m.out⟩
              case round =>
                clear F_m
                obtain ⟨j, hj, rfl, p1, HO, F_m⟩ := hrel
                have HBW := Lib.hid F_m.out.bel
                obtain ⟨z0, z1, -⟩ := id F_m.out.box
                by_cases hjl : j < D.m
                case neg =>
                  have HZ := Lib.hid (show p1 = List.zipWith (addF Q) qs D.ys from HO.out.done (by rw [HLO.out]; omega) (by rw [HLO.out, HNY.out]))
                  have hjn : ¬ ((j : Int) < (E.m : Int)) := by have := HLE.out; omega
                  have hjd : decide ((j : Int) < (E.m : Int)) = false := by simpa using hjn
                  have hjdn : decide (j < E.m) = false := by simpa using hjn
                  have HZ2 := HZ
                  go_wp2_with fail
                  go_roundw
                  case rel => first | exact ⟨i + 1, by omega, by omega, by go_num, by rw [show i + 1 - 1 = i by omega, HPN.out, HQN.out, ← HZ1.out, ← HZ2.out]; exact F_m.out⟩ | ((repeat apply Exists.intro); exact ⟨⟨i + 1, by omega, by omega, by go_num, by rw [show i + 1 - 1 = i by omega, HPN.out, HQN.out, ← HZ1.out, ← HZ2.out]; exact F_m.out⟩, rfl⟩)
                  case measure => simp [intOf] <;> omega
                case pos =>
                  have hj0 : (0 : Int) ≤ (j : Int) := by omega
                  have hj1 : (j : Int) < (D.m : Int) := by omega
                  have hjE : j < E.m := by rw [← HLE.out]; exact hjl
                  have hj2 : (j : Int) < (E.m : Int) := by omega
                  have hjd : decide ((j : Int) < (E.m : Int)) = true := by simpa using hj2
                  have hjdn : decide (j < E.m) = true := by simpa using hj2
                  have hwj : IntKind.i64.wrap ((j : Int) + 1) = (j : Int) + 1 := IntWalk.i64_in _ (by omega)
                  obtain ⟨x, hx⟩ : ∃ z, p1.getD j 0 = z := ⟨_, rfl⟩
                  obtain ⟨y, hy⟩ : ∃ z, (D.ys).getD j 0 = z := ⟨_, rfl⟩
                  obtain ⟨x0, xL⟩ := show 0 ≤ x ∧ x < Q by rw [← hx]; exact HO.out.rng (by omega) (addF_rng (by omega)) HQK.out.2 j
                  obtain ⟨y0, yL⟩ := show 0 ≤ y ∧ y < Q by
                    rw [← hy, getD_at (by rw [← HNY.out]; exact hjl)]; exact HYR.out _ (List.getElem_mem _)
                  have HYC := Lib.hid (show w.cell? ⟨s4, o4 + j, none⟩ = some (.int .u64 y) by rw [← hy]; exact HCY.out j hjl)
                  obtain ⟨v, hv⟩ : ∃ z, addF Q x y = z := ⟨_, rfl⟩
                  have HST := Lib.hid (show OpIn (addF Q) qs D.ys (j + 1) (p1.set j v) by
                    have := HO.out.step (by rw [HLO.out]; exact hjl)
                    rwa [hx, hy, hv] at this)
                  have HT := Lib.hid hv
                  have HX := Lib.hid hx
                  clear hx hy hv
                  go_wp2_with fail
                  clear z0 z1
                  replace F_m := Lib.hid F_m.out.drew
                  replace HBW := Lib.hid HBW.out.drew
                  have hS := And.intro F_m.out.g.s (And.intro F_m.out.box.c1 (And.intro ((F_m.out.r2.at hjE).trans (congrArg (fun z => some (Value.int IntKind.u64 z)) HX.out)) (And.intro ((HBW.out.cell (p := ⟨s, o + i * 2 + 1, none⟩) hs).trans HDC1.out) ((HBW.out.cell (p := ⟨s4, o4 + j, none⟩) hs4).trans HYC.out))))
                  refine wp_region_stage 19 (fun w' => SBox w' w.heap.size P Q G ∧ w'.cell? ⟨B, 1, none⟩ = some (.slice (some ⟨g2, 0, none⟩) E.m cb) ∧ w'.cell? ⟨g2, j, none⟩ = some (.int .u64 x) ∧ w'.cell? ⟨s, o + i * 2 + 1, none⟩ = some (.slice (some ⟨s4, o4, none⟩) D.m D.d) ∧ w'.cell? ⟨s4, o4 + j, none⟩ = some (.int .u64 y)) (by kernel_rfl) ?_
                  refine wpAnyB_takeP (i := 0) (some 70) (Op.fieldAddr 27 (Operand.tmp 7) 1) 0 (v := ?_) ⟨_, rfl, rfl, rfl, rfl, rfl⟩ (by kernel_rfl) (by kernel_rfl) (by kernel_rfl) (by kernel_rfl) (fun _ _ _ h => h) (fun _ => hS) (fun w' => ?_) ?_
                  rotate_left
                  · unfold bareOp
                    go_simp
                    try with_reducible rfl
                  simp only [Act.put, List.setIfInBounds_toArray, List.set_cons_zero, List.set_cons_succ]
                  refine wpAnyB_take (i := 1) (some 71) (Op.load 25 (Operand.tmp 70)) 25 (v := ?_) ⟨_, rfl, rfl, rfl, rfl, rfl⟩ (by kernel_rfl) (by kernel_rfl) (by kernel_rfl) [18, 19] (by kernel_rfl) (fun _ _ _ h => h) hS (fun w' hSw => ?_) ?_
                  rotate_left
                  · obtain ⟨⟨b0, b1, b2⟩, b3, b4, b5, b6⟩ := hSw
                    unfold bareOp
                    go_simp
                    try with_reducible rfl
                  simp only [Act.put, List.setIfInBounds_toArray, List.set_cons_zero, List.set_cons_succ]
                  refine wpAnyB_takeP (i := 2) (some 72) (Op.move (Operand.tmp 10)) 3 (v := ?_) ⟨_, rfl, rfl, rfl, rfl, rfl⟩ (by kernel_rfl) (by kernel_rfl) (by kernel_rfl) (by kernel_rfl) (fun _ _ _ h => h) (fun _ => hS) (fun w' => ?_) ?_
                  rotate_left
                  · unfold bareOp
                    go_simp
                    try with_reducible rfl
                  simp only [Act.put, List.setIfInBounds_toArray, List.set_cons_zero, List.set_cons_succ]
                  refine wpAnyB_take (i := 3) (some 73) (Op.load 24 (Operand.tmp 2)) 24 (v := ?_) ⟨_, rfl, rfl, rfl, rfl, rfl⟩ (by kernel_rfl) (by kernel_rfl) (by kernel_rfl) [17, 18, 19] (by kernel_rfl) (fun _ _ _ h => h) hS (fun w' hSw => ?_) ?_
                  rotate_left
                  · obtain ⟨⟨b0, b1, b2⟩, b3, b4, b5, b6⟩ := hSw
                    unfold bareOp
                    go_simp
                    try with_reducible rfl
                  simp only [Act.put, List.setIfInBounds_toArray, List.set_cons_zero, List.set_cons_succ]
                  refine wpAnyB_takeP (i := 4) (some 74) (Op.fieldAddr 27 (Operand.tmp 7) 1) 0 (v := ?_) ⟨_, rfl, rfl, rfl, rfl, rfl⟩ (by kernel_rfl) (by kernel_rfl) (by kernel_rfl) (by kernel_rfl) (fun _ _ _ h => h) (fun _ => hS) (fun w' => ?_) ?_
                  rotate_left
                  · unfold bareOp
                    go_simp
                    try with_reducible rfl
                  simp only [Act.put, List.setIfInBounds_toArray, List.set_cons_zero, List.set_cons_succ]
                  refine wpAnyB_take (i := 5) (some 75) (Op.load 25 (Operand.tmp 74)) 25 (v := ?_) ⟨_, rfl, rfl, rfl, rfl, rfl⟩ (by kernel_rfl) (by kernel_rfl) (by kernel_rfl) [7, 8, 17, 18, 19] (by kernel_rfl) (fun _ _ _ h => h) hS (fun w' hSw => ?_) ?_
                  rotate_left
                  · obtain ⟨⟨b0, b1, b2⟩, b3, b4, b5, b6⟩ := hSw
                    unfold bareOp
                    go_simp
                    try with_reducible rfl
                  simp only [Act.put, List.setIfInBounds_toArray, List.set_cons_zero, List.set_cons_succ]
                  refine wpAnyB_takeP (i := 6) (some 76) (Op.move (Operand.tmp 10)) 3 (v := ?_) ⟨_, rfl, rfl, rfl, rfl, rfl⟩ (by kernel_rfl) (by kernel_rfl) (by kernel_rfl) (by kernel_rfl) (fun _ _ _ h => h) (fun _ => hS) (fun w' => ?_) ?_
                  rotate_left
                  · unfold bareOp
                    go_simp
                    try with_reducible rfl
                  simp only [Act.put, List.setIfInBounds_toArray, List.set_cons_zero, List.set_cons_succ]
                  refine wpAnyB_takeP (i := 7) (some 77) (Op.indexAddr 25 (Operand.tmp 75) (Operand.tmp 76)) 0 (v := ?_) ⟨_, rfl, rfl, rfl, rfl, rfl⟩ (by kernel_rfl) (by kernel_rfl) (by kernel_rfl) (by kernel_rfl) (fun _ _ _ h => h) (fun _ => hS) (fun w' => ?_) ?_
                  rotate_left
                  · unfold bareOp
                    go_simp
                    try with_reducible rfl
                  simp only [Act.put, List.setIfInBounds_toArray, List.set_cons_zero, List.set_cons_succ]
                  refine wpAnyB_take (i := 8) (some 78) (Op.load 22 (Operand.tmp 77)) 22 (v := ?_) ⟨_, rfl, rfl, rfl, rfl, rfl⟩ (by kernel_rfl) (by kernel_rfl) (by kernel_rfl) [17, 18, 19] (by kernel_rfl) (fun _ _ _ h => h) hS (fun w' hSw => ?_) ?_
                  rotate_left
                  · obtain ⟨⟨b0, b1, b2⟩, b3, b4, b5, b6⟩ := hSw
                    unfold bareOp
                    go_simp
                    try with_reducible rfl
                  simp only [Act.put, List.setIfInBounds_toArray, List.set_cons_zero, List.set_cons_succ]
                  refine wpAnyB_takeP (i := 9) (some 79) (Op.move (Operand.tmp 1)) 33 (v := ?_) ⟨_, rfl, rfl, rfl, rfl, rfl⟩ (by kernel_rfl) (by kernel_rfl) (by kernel_rfl) (by kernel_rfl) (fun _ _ _ h => h) (fun _ => hS) (fun w' => ?_) ?_
                  rotate_left
                  · unfold bareOp
                    go_simp
                    try with_reducible rfl
                  simp only [Act.put, List.setIfInBounds_toArray, List.set_cons_zero, List.set_cons_succ]
                  refine wpAnyB_takeP (i := 10) (some 80) (Op.move (Operand.tmp 8)) 3 (v := ?_) ⟨_, rfl, rfl, rfl, rfl, rfl⟩ (by kernel_rfl) (by kernel_rfl) (by kernel_rfl) (by kernel_rfl) (fun _ _ _ h => h) (fun _ => hS) (fun w' => ?_) ?_
                  rotate_left
                  · unfold bareOp
                    go_simp
                    try with_reducible rfl
                  simp only [Act.put, List.setIfInBounds_toArray, List.set_cons_zero, List.set_cons_succ]
                  refine wpAnyB_takeP (i := 11) (some 81) (Op.indexAddr 33 (Operand.tmp 79) (Operand.tmp 80)) 0 (v := ?_) ⟨_, rfl, rfl, rfl, rfl, rfl⟩ (by kernel_rfl) (by kernel_rfl) (by kernel_rfl) (by kernel_rfl) (fun _ _ _ h => h) (fun _ => hS) (fun w' => ?_) ?_
                  rotate_left
                  · unfold bareOp
                    go_simp
                    try with_reducible rfl
                  simp only [Act.put, List.setIfInBounds_toArray, List.set_cons_zero, List.set_cons_succ]
                  refine wpAnyB_takeP (i := 12) (some 82) (Op.fieldAddr 27 (Operand.tmp 81) 1) 0 (v := ?_) ⟨_, rfl, rfl, rfl, rfl, rfl⟩ (by kernel_rfl) (by kernel_rfl) (by kernel_rfl) (by kernel_rfl) (fun _ _ _ h => h) (fun _ => hS) (fun w' => ?_) ?_
                  rotate_left
                  · unfold bareOp
                    go_simp
                    try with_reducible rfl
                  simp only [Act.put, List.setIfInBounds_toArray, List.set_cons_zero, List.set_cons_succ]
                  refine wpAnyB_take (i := 13) (some 83) (Op.load 25 (Operand.tmp 82)) 25 (v := ?_) ⟨_, rfl, rfl, rfl, rfl, rfl⟩ (by kernel_rfl) (by kernel_rfl) (by kernel_rfl) [15, 16, 17, 18, 19] (by kernel_rfl) (fun _ _ _ h => h) hS (fun w' hSw => ?_) ?_
                  rotate_left
                  · obtain ⟨⟨b0, b1, b2⟩, b3, b4, b5, b6⟩ := hSw
                    unfold bareOp
                    go_simp
                    try with_reducible rfl
                  simp only [Act.put, List.setIfInBounds_toArray, List.set_cons_zero, List.set_cons_succ]
                  refine wpAnyB_takeP (i := 14) (some 84) (Op.move (Operand.tmp 10)) 3 (v := ?_) ⟨_, rfl, rfl, rfl, rfl, rfl⟩ (by kernel_rfl) (by kernel_rfl) (by kernel_rfl) (by kernel_rfl) (fun _ _ _ h => h) (fun _ => hS) (fun w' => ?_) ?_
                  rotate_left
                  · unfold bareOp
                    go_simp
                    try with_reducible rfl
                  simp only [Act.put, List.setIfInBounds_toArray, List.set_cons_zero, List.set_cons_succ]
                  refine wpAnyB_takeP (i := 15) (some 85) (Op.indexAddr 25 (Operand.tmp 83) (Operand.tmp 84)) 0 (v := ?_) ⟨_, rfl, rfl, rfl, rfl, rfl⟩ (by kernel_rfl) (by kernel_rfl) (by kernel_rfl) (by kernel_rfl) (fun _ _ _ h => h) (fun _ => hS) (fun w' => ?_) ?_
                  rotate_left
                  · unfold bareOp
                    go_simp
                    try with_reducible rfl
                  simp only [Act.put, List.setIfInBounds_toArray, List.set_cons_zero, List.set_cons_succ]
                  refine wpAnyB_take (i := 16) (some 86) (Op.load 22 (Operand.tmp 85)) 22 (v := ?_) ⟨_, rfl, rfl, rfl, rfl, rfl⟩ (by kernel_rfl) (by kernel_rfl) (by kernel_rfl) [17, 18, 19] (by kernel_rfl) (fun _ _ _ h => h) hS (fun w' hSw => ?_) ?_
                  rotate_left
                  · obtain ⟨⟨b0, b1, b2⟩, b3, b4, b5, b6⟩ := hSw
                    unfold bareOp
                    go_simp
                    try with_reducible rfl
                  simp only [Act.put, List.setIfInBounds_toArray, List.set_cons_zero, List.set_cons_succ]
                  refine wpAnyB_only (i := 17) (some 87) (Op.call { callee := Callee.value (Operand.func 56), args := #[Operand.tmp 73, Operand.tmp 78, Operand.tmp 86], argTypes := #[24, 22, 22] }) 22 ⟨_, rfl, rfl, rfl, rfl, rfl⟩ (by kernel_rfl) (fun K hK => ?_)
                  unfold bareOp
                  go_wp2_with (go_at_call 56; refine (rSum_gen _ HH.out x0 xL y0 yL HT.out).mono ?_; rintro e w8 ⟨rfl, hb8⟩)
                  replace F_m := Lib.hid (F_m.out.keep hb8)
                  replace HBW := Lib.hid (HBW.out.trans (hb8.mono HBW.out.size))
                  replace hS := And.intro F_m.out.g.s (And.intro F_m.out.box.c1 (And.intro ((F_m.out.r2.at hjE).trans (congrArg (fun z => some (Value.int IntKind.u64 z)) HX.out)) (And.intro ((HBW.out.cell (p := ⟨s, o + i * 2 + 1, none⟩) hs).trans HDC1.out) ((HBW.out.cell (p := ⟨s4, o4 + j, none⟩) hs4).trans HYC.out))))
                  clear hb8
                  refine hK.out _ _ (fun _ => hS) ?_
                  clear hK K
                  try simp only [Act.put, List.setIfInBounds_toArray, List.set_cons_zero, List.set_cons_succ]
                  refine wpAnyB_takeP (i := 18) (some 88) (Op.indexAddr 25 (Operand.tmp 71) (Operand.tmp 72)) 0 (v := ?_) ⟨_, rfl, rfl, rfl, rfl, rfl⟩ (by kernel_rfl) (by kernel_rfl) (by kernel_rfl) (by kernel_rfl) (fun _ _ _ h => h) (fun _ => hS) (fun w' => ?_) ?_
                  rotate_left
                  · unfold bareOp
                    go_simp
                    try with_reducible rfl
                  simp only [Act.put, List.setIfInBounds_toArray, List.set_cons_zero, List.set_cons_succ]
                  refine wpAnyB_only (i := 19) none (Op.store 22 (Operand.tmp 88) (Operand.tmp 87)) 0 ⟨_, rfl, rfl, rfl, rfl, rfl⟩ (by kernel_rfl) (fun K hK => ?_)
                  unfold bareOp
                  have hcs := hS.2.2.1
                  have hfs := F_m.out.r2.fz j
                  go_wp2_with fail
                  refine hK.out _ _ (fun h => absurd (h.symm.trans (by kernel_rfl : _ = true)) (by decide)) ?_
                  clear hK K
                  try simp only [Act.put, List.setIfInBounds_toArray, List.set_cons_zero, List.set_cons_succ]
                  refine wpAnyB_done (by kernel_rfl) ?_ _
                  replace F_m := Lib.hid (F_m.out.set2 j v)
                  clear hS
                  go_wp2_with fail
                  go_roundw
                  case rel => first | exact ⟨j + 1, by omega, by go_num, _, HST.out, F_m.out⟩ | ((repeat apply Exists.intro); exact ⟨⟨j + 1, by omega, by go_num, _, HST.out, F_m.out⟩, rfl⟩)
                  case measure => simp [intOf] <;> omega
            case pos =>
              have hj0 : (0 : Int) ≤ (j : Int) := by omega
              have hj1 : (j : Int) < (D.n : Int) := by omega
              have hjE : j < E.n := by rw [← HLE.out]; exact hjl
              have hj2 : (j : Int) < (E.n : Int) := by omega
              have hjd : decide ((j : Int) < (E.n : Int)) = true := by simpa using hj2
              have hjdn : decide (j < E.n) = true := by simpa using hj2
              have hwj : IntKind.i64.wrap ((j : Int) + 1) = (j : Int) + 1 := IntWalk.i64_in _ (by omega)
              obtain ⟨x, hx⟩ : ∃ z, p1.getD j 0 = z := ⟨_, rfl⟩
              obtain ⟨y, hy⟩ : ∃ z, (D.xs).getD j 0 = z := ⟨_, rfl⟩
              obtain ⟨x0, xL⟩ := show 0 ≤ x ∧ x < P by rw [← hx]; exact HO.out.rng (by omega) (mulF_rng (by omega)) HOK.out.2 j
              obtain ⟨y0, yL⟩ := show 0 ≤ y ∧ y < P by
                rw [← hy, getD_at (by rw [← HNX.out]; exact hjl)]; exact HXR.out _ (List.getElem_mem _)
              have HYC := Lib.hid (show w.cell? ⟨s3, o3 + j, none⟩ = some (.int .u64 y) by rw [← hy]; exact HCX.out j hjl)
              obtain ⟨v, hv⟩ : ∃ z, mulF P x y = z := ⟨_, rfl⟩
              have HST := Lib.hid (show OpIn (mulF P) os D.xs (j + 1) (p1.set j v) by
                have := HO.out.step (by rw [HLO.out]; exact hjl)
                rwa [hx, hy, hv] at this)
              have HT := Lib.hid hv
              have HX := Lib.hid hx
              clear hx hy hv
              obtain ⟨k1_, k2_⟩ := mul_bound x0 (show x < 2147483648 by omega) y0 (show y < 2147483648 by omega)
              have k3_ := wrap_u k1_ (by omega)
              have k4_ : (x * y).tmod P = v := (tmod_u k1_).trans HT.out
              have k5_ : 0 ≤ v := by rw [← HT.out]; exact Int.emod_nonneg _ (by omega)
              have k6_ : v < P := by rw [← HT.out]; exact Int.emod_lt_of_pos _ (by omega)
              have k7_ := wrap_u k5_ (by omega)
              have k8_ : ¬ P = 0 := by omega
              go_wp2_with fail
              clear z0 z1
              replace F_m := Lib.hid F_m.out.drew
              replace HBW := Lib.hid HBW.out.drew
              have hS := And.intro F_m.out.g.s (And.intro F_m.out.box.c0 (And.intro ((F_m.out.r1.at hjE).trans (congrArg (fun z => some (Value.int IntKind.u64 z)) HX.out)) (And.intro ((HBW.out.cell (p := ⟨s, o + i * 2, none⟩) hs).trans HDC0.out) ((HBW.out.cell (p := ⟨s3, o3 + j, none⟩) hs3).trans HYC.out))))
              refine wp_region_stage 21 (fun w' => SBox w' w.heap.size P Q G ∧ w'.cell? ⟨B, 0, none⟩ = some (.slice (some ⟨g1, 0, none⟩) E.n ca) ∧ w'.cell? ⟨g1, j, none⟩ = some (.int .u64 x) ∧ w'.cell? ⟨s, o + i * 2, none⟩ = some (.slice (some ⟨s3, o3, none⟩) D.n D.c) ∧ w'.cell? ⟨s3, o3 + j, none⟩ = some (.int .u64 y)) (by kernel_rfl) ?_
              refine wpAnyB_takeP (i := 0) (some 42) (Op.fieldAddr 27 (Operand.tmp 7) 0) 0 (v := ?_) ⟨_, rfl, rfl, rfl, rfl, rfl⟩ (by kernel_rfl) (by kernel_rfl) (by kernel_rfl) (by kernel_rfl) (fun _ _ _ h => h) (fun _ => hS) (fun w' => ?_) ?_
              rotate_left
              · unfold bareOp
                go_simp
                try with_reducible rfl
              simp only [Act.put, List.setIfInBounds_toArray, List.set_cons_zero, List.set_cons_succ]
              refine wpAnyB_take (i := 1) (some 43) (Op.load 25 (Operand.tmp 42)) 25 (v := ?_) ⟨_, rfl, rfl, rfl, rfl, rfl⟩ (by kernel_rfl) (by kernel_rfl) (by kernel_rfl) [20, 21] (by kernel_rfl) (fun _ _ _ h => h) hS (fun w' hSw => ?_) ?_
              rotate_left
              · obtain ⟨⟨b0, b1, b2⟩, b3, b4, b5, b6⟩ := hSw
                unfold bareOp
                go_simp
                try with_reducible rfl
              simp only [Act.put, List.setIfInBounds_toArray, List.set_cons_zero, List.set_cons_succ]
              refine wpAnyB_takeP (i := 2) (some 44) (Op.move (Operand.tmp 9)) 3 (v := ?_) ⟨_, rfl, rfl, rfl, rfl, rfl⟩ (by kernel_rfl) (by kernel_rfl) (by kernel_rfl) (by kernel_rfl) (fun _ _ _ h => h) (fun _ => hS) (fun w' => ?_) ?_
              rotate_left
              · unfold bareOp
                go_simp
                try with_reducible rfl
              simp only [Act.put, List.setIfInBounds_toArray, List.set_cons_zero, List.set_cons_succ]
              refine wpAnyB_takeP (i := 3) (some 45) (Op.fieldAddr 27 (Operand.tmp 7) 0) 0 (v := ?_) ⟨_, rfl, rfl, rfl, rfl, rfl⟩ (by kernel_rfl) (by kernel_rfl) (by kernel_rfl) (by kernel_rfl) (fun _ _ _ h => h) (fun _ => hS) (fun w' => ?_) ?_
              rotate_left
              · unfold bareOp
                go_simp
                try with_reducible rfl
              simp only [Act.put, List.setIfInBounds_toArray, List.set_cons_zero, List.set_cons_succ]
              refine wpAnyB_take (i := 4) (some 46) (Op.load 25 (Operand.tmp 45)) 25 (v := ?_) ⟨_, rfl, rfl, rfl, rfl, rfl⟩ (by kernel_rfl) (by kernel_rfl) (by kernel_rfl) [6, 7, 16, 19, 20, 21] (by kernel_rfl) (fun _ _ _ h => h) hS (fun w' hSw => ?_) ?_
              rotate_left
              · obtain ⟨⟨b0, b1, b2⟩, b3, b4, b5, b6⟩ := hSw
                unfold bareOp
                go_simp
                try with_reducible rfl
              simp only [Act.put, List.setIfInBounds_toArray, List.set_cons_zero, List.set_cons_succ]
              refine wpAnyB_takeP (i := 5) (some 47) (Op.move (Operand.tmp 9)) 3 (v := ?_) ⟨_, rfl, rfl, rfl, rfl, rfl⟩ (by kernel_rfl) (by kernel_rfl) (by kernel_rfl) (by kernel_rfl) (fun _ _ _ h => h) (fun _ => hS) (fun w' => ?_) ?_
              rotate_left
              · unfold bareOp
                go_simp
                try with_reducible rfl
              simp only [Act.put, List.setIfInBounds_toArray, List.set_cons_zero, List.set_cons_succ]
              refine wpAnyB_takeP (i := 6) (some 48) (Op.indexAddr 25 (Operand.tmp 46) (Operand.tmp 47)) 0 (v := ?_) ⟨_, rfl, rfl, rfl, rfl, rfl⟩ (by kernel_rfl) (by kernel_rfl) (by kernel_rfl) (by kernel_rfl) (fun _ _ _ h => h) (fun _ => hS) (fun w' => ?_) ?_
              rotate_left
              · unfold bareOp
                go_simp
                try with_reducible rfl
              simp only [Act.put, List.setIfInBounds_toArray, List.set_cons_zero, List.set_cons_succ]
              refine wpAnyB_take (i := 7) (some 49) (Op.load 22 (Operand.tmp 48)) 22 (v := ?_) ⟨_, rfl, rfl, rfl, rfl, rfl⟩ (by kernel_rfl) (by kernel_rfl) (by kernel_rfl) [16, 19, 20, 21] (by kernel_rfl) (fun _ _ _ h => h) hS (fun w' hSw => ?_) ?_
              rotate_left
              · obtain ⟨⟨b0, b1, b2⟩, b3, b4, b5, b6⟩ := hSw
                unfold bareOp
                go_simp
                try with_reducible rfl
              simp only [Act.put, List.setIfInBounds_toArray, List.set_cons_zero, List.set_cons_succ]
              refine wpAnyB_takeP (i := 8) (some 50) (Op.move (Operand.tmp 1)) 33 (v := ?_) ⟨_, rfl, rfl, rfl, rfl, rfl⟩ (by kernel_rfl) (by kernel_rfl) (by kernel_rfl) (by kernel_rfl) (fun _ _ _ h => h) (fun _ => hS) (fun w' => ?_) ?_
              rotate_left
              · unfold bareOp
                go_simp
                try with_reducible rfl
              simp only [Act.put, List.setIfInBounds_toArray, List.set_cons_zero, List.set_cons_succ]
              refine wpAnyB_takeP (i := 9) (some 51) (Op.move (Operand.tmp 8)) 3 (v := ?_) ⟨_, rfl, rfl, rfl, rfl, rfl⟩ (by kernel_rfl) (by kernel_rfl) (by kernel_rfl) (by kernel_rfl) (fun _ _ _ h => h) (fun _ => hS) (fun w' => ?_) ?_
              rotate_left
              · unfold bareOp
                go_simp
                try with_reducible rfl
              simp only [Act.put, List.setIfInBounds_toArray, List.set_cons_zero, List.set_cons_succ]
              refine wpAnyB_takeP (i := 10) (some 52) (Op.indexAddr 33 (Operand.tmp 50) (Operand.tmp 51)) 0 (v := ?_) ⟨_, rfl, rfl, rfl, rfl, rfl⟩ (by kernel_rfl) (by kernel_rfl) (by kernel_rfl) (by kernel_rfl) (fun _ _ _ h => h) (fun _ => hS) (fun w' => ?_) ?_
              rotate_left
              · unfold bareOp
                go_simp
                try with_reducible rfl
              simp only [Act.put, List.setIfInBounds_toArray, List.set_cons_zero, List.set_cons_succ]
              refine wpAnyB_takeP (i := 11) (some 53) (Op.fieldAddr 27 (Operand.tmp 52) 0) 0 (v := ?_) ⟨_, rfl, rfl, rfl, rfl, rfl⟩ (by kernel_rfl) (by kernel_rfl) (by kernel_rfl) (by kernel_rfl) (fun _ _ _ h => h) (fun _ => hS) (fun w' => ?_) ?_
              rotate_left
              · unfold bareOp
                go_simp
                try with_reducible rfl
              simp only [Act.put, List.setIfInBounds_toArray, List.set_cons_zero, List.set_cons_succ]
              refine wpAnyB_take (i := 12) (some 54) (Op.load 25 (Operand.tmp 53)) 25 (v := ?_) ⟨_, rfl, rfl, rfl, rfl, rfl⟩ (by kernel_rfl) (by kernel_rfl) (by kernel_rfl) [14, 15, 16, 19, 20, 21] (by kernel_rfl) (fun _ _ _ h => h) hS (fun w' hSw => ?_) ?_
              rotate_left
              · obtain ⟨⟨b0, b1, b2⟩, b3, b4, b5, b6⟩ := hSw
                unfold bareOp
                go_simp
                try with_reducible rfl
              simp only [Act.put, List.setIfInBounds_toArray, List.set_cons_zero, List.set_cons_succ]
              refine wpAnyB_takeP (i := 13) (some 55) (Op.move (Operand.tmp 9)) 3 (v := ?_) ⟨_, rfl, rfl, rfl, rfl, rfl⟩ (by kernel_rfl) (by kernel_rfl) (by kernel_rfl) (by kernel_rfl) (fun _ _ _ h => h) (fun _ => hS) (fun w' => ?_) ?_
              rotate_left
              · unfold bareOp
                go_simp
                try with_reducible rfl
              simp only [Act.put, List.setIfInBounds_toArray, List.set_cons_zero, List.set_cons_succ]
              refine wpAnyB_takeP (i := 14) (some 56) (Op.indexAddr 25 (Operand.tmp 54) (Operand.tmp 55)) 0 (v := ?_) ⟨_, rfl, rfl, rfl, rfl, rfl⟩ (by kernel_rfl) (by kernel_rfl) (by kernel_rfl) (by kernel_rfl) (fun _ _ _ h => h) (fun _ => hS) (fun w' => ?_) ?_
              rotate_left
              · unfold bareOp
                go_simp
                try with_reducible rfl
              simp only [Act.put, List.setIfInBounds_toArray, List.set_cons_zero, List.set_cons_succ]
              refine wpAnyB_take (i := 15) (some 57) (Op.load 22 (Operand.tmp 56)) 22 (v := ?_) ⟨_, rfl, rfl, rfl, rfl, rfl⟩ (by kernel_rfl) (by kernel_rfl) (by kernel_rfl) [16, 19, 20, 21] (by kernel_rfl) (fun _ _ _ h => h) hS (fun w' hSw => ?_) ?_
              rotate_left
              · obtain ⟨⟨b0, b1, b2⟩, b3, b4, b5, b6⟩ := hSw
                unfold bareOp
                go_simp
                try with_reducible rfl
              simp only [Act.put, List.setIfInBounds_toArray, List.set_cons_zero, List.set_cons_succ]
              refine wpAnyB_takeP (i := 16) (some 58) (Op.binOp BinOp.mul 22 (Operand.tmp 49) (Operand.tmp 57) 22) 22 (v := ?_) ⟨_, rfl, rfl, rfl, rfl, rfl⟩ (by kernel_rfl) (by kernel_rfl) (by kernel_rfl) (by kernel_rfl) (fun _ _ _ h => h) (fun _ => hS) (fun w' => ?_) ?_
              rotate_left
              · unfold bareOp
                go_simp
                try with_reducible rfl
              simp only [Act.put, List.setIfInBounds_toArray, List.set_cons_zero, List.set_cons_succ]
              refine wpAnyB_takeP (i := 17) (some 59) (Op.fieldAddr 24 (Operand.tmp 2) 0) 0 (v := ?_) ⟨_, rfl, rfl, rfl, rfl, rfl⟩ (by kernel_rfl) (by kernel_rfl) (by kernel_rfl) (by kernel_rfl) (fun _ _ _ h => h) (fun _ => hS) (fun w' => ?_) ?_
              rotate_left
              · unfold bareOp
                go_simp
                try with_reducible rfl
              simp only [Act.put, List.setIfInBounds_toArray, List.set_cons_zero, List.set_cons_succ]
              refine wpAnyB_take (i := 18) (some 60) (Op.load 22 (Operand.tmp 59)) 22 (v := ?_) ⟨_, rfl, rfl, rfl, rfl, rfl⟩ (by kernel_rfl) (by kernel_rfl) (by kernel_rfl) [19, 20, 21] (by kernel_rfl) (fun _ _ _ h => h) hS (fun w' hSw => ?_) ?_
              rotate_left
              · obtain ⟨⟨b0, b1, b2⟩, b3, b4, b5, b6⟩ := hSw
                unfold bareOp
                go_simp
                try with_reducible rfl
              simp only [Act.put, List.setIfInBounds_toArray, List.set_cons_zero, List.set_cons_succ]
              refine wpAnyB_takeP (i := 19) (some 61) (Op.binOp BinOp.rem 22 (Operand.tmp 58) (Operand.tmp 60) 22) 22 (v := ?_) ⟨_, rfl, rfl, rfl, rfl, rfl⟩ (by kernel_rfl) (by kernel_rfl) (by kernel_rfl) (by kernel_rfl) (fun _ _ _ h => h) (fun _ => hS) (fun w' => ?_) ?_
              rotate_left
              · unfold bareOp
                go_simp
                try with_reducible rfl
              simp only [Act.put, List.setIfInBounds_toArray, List.set_cons_zero, List.set_cons_succ]
              refine wpAnyB_takeP (i := 20) (some 62) (Op.indexAddr 25 (Operand.tmp 43) (Operand.tmp 44)) 0 (v := ?_) ⟨_, rfl, rfl, rfl, rfl, rfl⟩ (by kernel_rfl) (by kernel_rfl) (by kernel_rfl) (by kernel_rfl) (fun _ _ _ h => h) (fun _ => hS) (fun w' => ?_) ?_
              rotate_left
              · unfold bareOp
                go_simp
                try with_reducible rfl
              simp only [Act.put, List.setIfInBounds_toArray, List.set_cons_zero, List.set_cons_succ]
              refine wpAnyB_only (i := 21) none (Op.store 22 (Operand.tmp 62) (Operand.tmp 61)) 0 ⟨_, rfl, rfl, rfl, rfl, rfl⟩ (by kernel_rfl) (fun K hK => ?_)
              unfold bareOp
              have hcs := hS.2.2.1
              have hfs := F_m.out.r1.fz j
              go_wp2_with fail
              refine hK.out _ _ (fun h => absurd (h.symm.trans (by kernel_rfl : _ = true)) (by decide)) ?_
              clear hK K
              try simp only [Act.put, List.setIfInBounds_toArray, List.set_cons_zero, List.set_cons_succ]
              refine wpAnyB_done (by kernel_rfl) ?_ _
              replace F_m := Lib.hid (F_m.out.set1 j v)
              clear hS
              go_wp2_with fail
              go_roundw
              case rel => first | exact ⟨j + 1, by omega, by go_num, _, HST.out, F_m.out⟩ | ((repeat apply Exists.intro); exact ⟨⟨j + 1, by omega, by go_num, _, HST.out, F_m.out⟩, rfl⟩)
              case measure => simp [intOf] <;> omega
end Go.Proofs.Ytjfaaicbojnpaaa
/- Deals among the arguments; the reference's Twin; the reference's Merge of nothing; rows of two and three deals. -/
namespace Go.Proofs.Ytjfaaicbojnpaaa
open Go.RowKit Go.ChangeShapes Go.WideShapes Go.ChangeAt Num
set_option linter.unusedSimpArgs false
set_option linter.unusedVariables false

/-- A deal as an argument has it. -/
structure DlA (W : World) (D : Dl) : Prop where
  h1 : ShI .u64 W D.a D.n D.xs
  u1 : ∀ x, x ∈ D.xs → U64 x
  z1 : D.a = none → D.c = 0
  h2 : ShI .u64 W D.b D.m D.ys
  u2 : ∀ x, x ∈ D.ys → U64 x
  z2 : D.b = none → D.d = 0
theorem open_numsF {P : Program} {H : Type} {enc : TypeId × Value → H} {w : World} {base : Nat} {held : Bool} {t e : TypeId} {q : IntKind} {fuel : Nat} {v0 : Value} {y : DataW H × List MemPlace} (ht : P.underlying t = some (.slice e)) (he : P.underlying e = some (.int q)) (hc1 : P.cellsOf e = 1) (hf : DataW.trod enc P w base (fun _ => true) held fuel t [v0] = some y) :
    ∃ a n c xs, v0 = .slice a n c ∧ ShI q w a n xs ∧ (∀ x, x ∈ xs → (Lit.int q x).wf = true) ∧ (a = none → c = 0) ∧ n ≤ c := by
  rcases open_ints ht he hc1 hf with ⟨hcs, -⟩ | ⟨a, len, cap, zs, hcs, -, hl, hm, hz, -, hcell, hw⟩
  · simp at hcs
    exact ⟨none, 0, 0, [], hcs, .inl ⟨rfl, rfl⟩, (fun q hq => by cases hq), (fun _ => rfl), Nat.le_refl _⟩
  · simp at hcs
    subst hcs
    have hmc : zs.length = cap := by simpa using hz
    by_cases hl0 : len = 0
    · subst hl0
      exact ⟨_, _, _, [], rfl, .inl ⟨rfl, rfl⟩, (fun q hq => by cases hq), (fun h => by cases h), hl⟩
    · obtain ⟨b, off, spot⟩ := a
      have g0 := hcell 0 (by omega)
      have hspot : spot = none := by simpa [Addr.add] using World.cell?_spot g0
      subst hspot
      have hlt : b < w.heap.size := by
        have := World.block_lt_of_cell? w _ g0
        simpa [add_plain'] using this
      refine ⟨_, _, _, zs.take len, rfl, .inr ⟨b, off, rfl, by simp; omega, hlt, fun i hi => ?_⟩, fun z hz => hw z (List.mem_of_mem_take hz), (fun h => by cases h), hl⟩
      have hi' : i < len ∧ i < zs.length := by simp at hi; omega
      have e : (zs.take len).getD i 0 = zs.getD i 0 := by simp [List.getD_eq_getElem?_getD, List.getElem?_take, hi'.1]
      rw [e, ← add_plain']; exact hcell i hi'.2
set_option maxRecDepth 100000 in
theorem open_deal {H : Type} {enc : TypeId × Value → H} {w : World} {base : Nat} {held : Bool} {r : Reach} {b0 : Nat} {v : Value} {d : DataW H} {p : List MemPlace} (hv : Value.okWide Try.prog w r b0 27 v) (h : DataW.Trod enc Try.prog w base (fun _ => true) held 27 v d p) :
    ∃ D : Dl, v = .agg #[.slice D.a D.n D.c, .slice D.b D.m D.d] ∧ DlA w D := by
  obtain ⟨c0, c1, y0, y1, k, rfl, rfl, rfl, hy0, hy1⟩ := Joins.open_agg2 Try.underlying27 (by kernel_rfl) (by kernel_rfl) hv h
  obtain ⟨a, n, c, xs, rfl, h1, h2, h3, -⟩ := open_numsF Try.underlying25 Try.underlying22 (by kernel_rfl) hy0
  obtain ⟨b, m, d, ys, rfl, g1, g2, g3, -⟩ := open_numsF Try.underlying25 Try.underlying22 (by kernel_rfl) hy1
  exact ⟨⟨a, n, c, xs, b, m, d, ys⟩, rfl, ⟨h1, fun x hx => U64.wf (h2 x hx), h3, g1, fun x hx => U64.wf (g2 x hx), g3⟩⟩

set_option maxHeartbeats 2000000 in
theorem rtwin64_gen {a : Option Addr} {n c : Nat} {xs : List Int} (w : World) (h : ShI .u64 w a n xs) (hc : a = none → c = 0) (hn : n ≤ 10000) :
    Calls Try.prog 18 #[.slice a n c] w fun e w' => ∃ v, e = .returned v ∧ OwnU w' w.heap.size v xs ∧ Below w.heap.size w w' := by
  obtain ⟨i0, hi, hz0, hz1, hz2⟩ := info_parts (P := Try.prog) (e := 22) (z := .int .u64 0) (size := 1) (bytes := 8) (by kernel_rfl)
  have HS := Lib.hid h
  cases a with
  | none =>
    have hz : n = 0 ∧ xs = [] := by
      rcases h with ⟨h1, h2⟩ | ⟨s, o, h0, -⟩
      · exact ⟨h1, h2⟩
      · cases h0
    obtain ⟨rfl, rfl⟩ := hz
    obtain rfl : c = 0 := hc rfl
    go_enter Try.func18, Try.ntmps18
    go_wp2_with (at_builtin; refine wpList_append_own_none rfl _ _ 25 rfl w.heap.size 22 i0 1 Try.underlying25 hi _ _ _ rfl (World.ownsRow_nil w _ _ _) rfl ?_)
    go_ret
    exact ⟨_, rfl, OwnU.nil _ _, Below.refl _ _⟩
  | some ad =>
    have hl := h.len
    have HLN := Lib.hid hl
    have HL := Lib.hid (show (xs.map (Value.int IntKind.u64)).length = n * 1 by rw [List.length_map, hl, Nat.mul_one])
    clear h hl
    go_enter Try.func18, Try.ntmps18
    go_wp2_with (at_builtin; refine wpList_append_own _ rfl _ _ 25 rfl w.heap.size 22 i0 (.int .u64 0) 1 8 Try.underlying25 hi hz0 hz1 hz2 rfl (by decide) _ _ _ rfl (World.ownsRow_nil w _ _ _) ad n c (xs.map (Value.int IntKind.u64)) rfl HL.out HS.out.cells (fun u hu => by obtain ⟨x, -, rfl⟩ := List.mem_map.1 hu; rfl) (by unfold maxLen; omega) (by omega) (Nat.le_refl _) ?_; intro v' w1 hown hgr hnil; have hB := Lib.hid (Below.grown (Below.refl w.heap.size w) hgr (Nat.le_refl _) (fun k hk => by cases hk)); have HOWN := Lib.hid hown; clear hown hgr hnil)
    go_ret
    have h9 := HOWN.out
    rw [Nat.zero_add, List.nil_append] at h9
    refine ⟨_, rfl, ?_, hB.out⟩
    unfold OwnU
    rw [← HLN.out]
    exact h9

set_option maxRecDepth 100000 in
set_option maxHeartbeats 4000000 in
theorem rtwin_gen {a b : Option Addr} {n c m d : Nat} {xs ys : List Int} (w : World) (h1 : ShI .u64 w a n xs) (h2 : ShI .u64 w b m ys) (k1 : a = none → c = 0) (k2 : b = none → d = 0) (hn : n ≤ 10000) (hm : m ≤ 10000) :
    Calls Try.prog 14 #[.agg #[.slice a n c, .slice b m d]] w (RetOne w xs ys) := by
  have H1 := Lib.hid h1
  have H2 := Lib.hid h2
  clear h1 h2
  have F_x := Lib.hid (show DealBox ((w.alloc (.cells #[.slice a n c, .slice b m d] 27)).alloc (.cells #[.slice none 0 0, .slice none 0 0] 27)) w.heap.size (.slice a n c) (.slice b m d) from (DealBox.at _ _ _ _ w.heap.size (by simp)).alloc _)
  have F_r := Lib.hid (show DealBox ((w.alloc (.cells #[.slice a n c, .slice b m d] 27)).alloc (.cells #[.slice none 0 0, .slice none 0 0] 27)) (w.heap.size + 1) (.slice none 0 0) (.slice none 0 0) from DealBox.at _ _ _ _ (w.heap.size + 1) (by simp))
  have HBW := Lib.hid (show Below w.heap.size w ((w.alloc (.cells #[.slice a n c, .slice b m d] 27)).alloc (.cells #[.slice none 0 0, .slice none 0 0] 27)) from ((Below.refl _ _).alloc (by simp <;> omega) _).alloc (by simp <;> omega) _)
  go_enter Try.func14, Try.ntmps14
  go_wp2_with fail
  replace F_x := Lib.hid F_x.out.drew
  replace F_r := Lib.hid F_r.out.drew
  replace HBW := Lib.hid HBW.out.drew
  have hS := And.intro F_x.out.c0 F_x.out.c1
  refine wp_region_stage 7 (fun w' => w'.cell? ⟨w.heap.size, 0, none⟩ = some (.slice a n c) ∧ w'.cell? ⟨w.heap.size, 1, none⟩ = some (.slice b m d)) (by kernel_rfl) ?_
  refine wpAnyB_takeP (i := 0) (some 3) (Op.fieldAddr 27 (Operand.tmp 1) 0) 0 (v := ?_) ⟨_, rfl, rfl, rfl, rfl, rfl⟩ (by kernel_rfl) (by kernel_rfl) (by kernel_rfl) (by kernel_rfl) (fun _ _ _ h => h) (fun _ => hS) (fun w' => ?_) ?_
  rotate_left
  · unfold bareOp
    go_simp
    try with_reducible rfl
  simp only [Act.put, List.setIfInBounds_toArray, List.set_cons_zero, List.set_cons_succ]
  refine wpAnyB_take (i := 1) (some 4) (Op.load 25 (Operand.tmp 3)) 25 (v := ?_) ⟨_, rfl, rfl, rfl, rfl, rfl⟩ (by kernel_rfl) (by kernel_rfl) (by kernel_rfl) [2, 5, 6, 7] (by kernel_rfl) (fun _ _ _ h => h) hS (fun w' hSw => ?_) ?_
  rotate_left
  · obtain ⟨b3, b4⟩ := hSw
    unfold bareOp
    go_simp
    try with_reducible rfl
  simp only [Act.put, List.setIfInBounds_toArray, List.set_cons_zero, List.set_cons_succ]
  refine wpAnyB_takeP (i := 3) (some 6) (Op.fieldAddr 27 (Operand.tmp 1) 1) 0 (v := ?_) ⟨_, rfl, rfl, rfl, rfl, rfl⟩ (by kernel_rfl) (by kernel_rfl) (by kernel_rfl) (by kernel_rfl) (fun _ _ _ h => h) (fun _ => hS) (fun w' => ?_) ?_
  rotate_left
  · unfold bareOp
    go_simp
    try with_reducible rfl
  simp only [Act.put, List.setIfInBounds_toArray, List.set_cons_zero, List.set_cons_succ]
  refine wpAnyB_take (i := 4) (some 7) (Op.load 25 (Operand.tmp 6)) 25 (v := ?_) ⟨_, rfl, rfl, rfl, rfl, rfl⟩ (by kernel_rfl) (by kernel_rfl) (by kernel_rfl) [5, 6, 7] (by kernel_rfl) (fun _ _ _ h => h) hS (fun w' hSw => ?_) ?_
  rotate_left
  · obtain ⟨b3, b4⟩ := hSw
    unfold bareOp
    go_simp
    try with_reducible rfl
  simp only [Act.put, List.setIfInBounds_toArray, List.set_cons_zero, List.set_cons_succ]
  refine wpAnyB_only (i := 2) (some 5) (Op.call { callee := Callee.value (Operand.func 18), args := #[Operand.tmp 4], argTypes := #[25] }) 25 ⟨_, rfl, rfl, rfl, rfl, rfl⟩ (by kernel_rfl) (fun K hK => ?_)
  unfold bareOp
  go_wp2_with fail
  have hz1 := F_r.out.lt
  refine (rtwin64_gen _ (H1.out.keep HBW.out) k1 (by omega)).mono ?_
  rintro e w8 ⟨v1, rfl, ho1, hb1⟩
  obtain ⟨t1, u1c, rfl⟩ := ho1.sl
  replace F_x := Lib.hid (F_x.out.keep hb1)
  replace F_r := Lib.hid (F_r.out.keep hb1)
  replace HBW := Lib.hid (HBW.out.trans (hb1.mono HBW.out.size))
  replace hS := And.intro F_x.out.c0 F_x.out.c1
  have F_1 := Lib.hid (ho1.mono (n₀ := w.heap.size + 2) (Nat.succ_le_of_lt hz1))
  clear hb1 ho1 hz1
  refine hK.out _ _ (fun _ => hS) ?_
  clear hK K
  try simp only [Act.put, List.setIfInBounds_toArray, List.set_cons_zero, List.set_cons_succ]
  refine wpAnyB_only (i := 5) (some 8) (Op.call { callee := Callee.value (Operand.func 18), args := #[Operand.tmp 7], argTypes := #[25] }) 25 ⟨_, rfl, rfl, rfl, rfl, rfl⟩ (by kernel_rfl) (fun K hK => ?_)
  unfold bareOp
  go_wp2_with fail
  have hz2 := F_r.out.lt
  refine (rtwin64_gen _ (H2.out.keep HBW.out) k2 (by omega)).mono ?_
  rintro e w8 ⟨v2, rfl, ho2, hb2⟩
  obtain ⟨t2, u2c, rfl⟩ := ho2.sl
  replace F_x := Lib.hid (F_x.out.keep hb2)
  replace F_r := Lib.hid (F_r.out.keep hb2)
  replace F_1 := Lib.hid (F_1.out.keep hb2)
  replace HBW := Lib.hid (HBW.out.trans (hb2.mono HBW.out.size))
  replace hS := And.intro F_x.out.c0 F_x.out.c1
  have F_2 := Lib.hid (ho2.mono (n₀ := w.heap.size + 2) (Nat.succ_le_of_lt hz2))
  clear hb2 ho2 hz2
  refine hK.out _ _ (fun _ => hS) ?_
  clear hK K
  try simp only [Act.put, List.setIfInBounds_toArray, List.set_cons_zero, List.set_cons_succ]
  refine wpAnyB_takeP (i := 6) (some 9) (Op.build 27 #[(0, Operand.tmp 5), (1, Operand.tmp 8)]) 27 (v := ?_) ⟨_, rfl, rfl, rfl, rfl, rfl⟩ (by kernel_rfl) (by kernel_rfl) (by kernel_rfl) (by kernel_rfl) (fun _ _ _ h => h) (fun _ => hS) (fun w' => ?_) ?_
  rotate_left
  · unfold bareOp
    go_simp
    try with_reducible rfl
  simp only [Act.put, List.setIfInBounds_toArray, List.set_cons_zero, List.set_cons_succ]
  refine wpAnyB_only (i := 7) none (Op.store 27 (Operand.tmp 2) (Operand.tmp 9)) 0 ⟨_, rfl, rfl, rfl, rfl, rfl⟩ (by kernel_rfl) (fun K hK => ?_)
  unfold bareOp
  obtain ⟨za, zb, zc, zd, -⟩ := id F_r.out
  go_wp2_with fail
  refine hK.out _ _ (fun h => absurd (h.symm.trans (by kernel_rfl : _ = true)) (by decide)) ?_
  clear hK K
  try simp only [Act.put, List.setIfInBounds_toArray, List.set_cons_zero, List.set_cons_succ]
  refine wpAnyB_done (by kernel_rfl) ?_ _
  clear hS
  go_wp2_with fail
  exact bodyPost_ret (res_deal1 rfl (F_r.out.stored _ _) _ rfl) rfl ⟨_, _, rfl, ((F_1.out.far (b := w.heap.size + 1) (o := 0) (Nat.lt_succ_self _) _).far (b := w.heap.size + 1) (o := 1) (Nat.lt_succ_self _) _).mono (by omega), ((F_2.out.far (b := w.heap.size + 1) (o := 0) (Nat.lt_succ_self _) _).far (b := w.heap.size + 1) (o := 1) (Nat.lt_succ_self _) _).mono (by omega), (HBW.out.setCell (p := ⟨w.heap.size + 1, 0, none⟩) (by show w.heap.size ≤ w.heap.size + 1; omega) _).setCell (p := ⟨w.heap.size + 1, 1, none⟩) (by show w.heap.size ≤ w.heap.size + 1; omega) _⟩

set_option maxRecDepth 100000 in
set_option maxHeartbeats 8000000 in
theorem rmergeable_nil {P Q G : Int} (w : World) :
    Calls Try.prog 55 #[.agg #[.int .u64 P, .int .u64 Q, .int .u64 G], .slice none 0 0] w fun e w' => e = .returned (.bool false) ∧ Below w.heap.size w w' := by
  have F_g := Lib.hid (show Boxed (w.alloc (.cells #[.int .u64 P, .int .u64 Q, .int .u64 G] 24)) w.heap.size P Q G from Boxed.at _ P Q G _ w.heap.size (by simp))
  have HBW := Lib.hid (show Below w.heap.size w (w.alloc (.cells #[.int .u64 P, .int .u64 Q, .int .u64 G] 24)) from (Below.refl _ _).alloc (by simp <;> omega) _)
  go_enter Try.func55, Try.ntmps55
  go_wp2_with fail
  go_loopw [5, 6] (fun c5 c6 wr => c5 = .int .i64 0 ∧ Hid (Boxed wr w.heap.size P Q G) ∧ Hid (Below w.heap.size w wr)) (fun c5 _ _ => 0)
  case atStart => exact ⟨rfl, F_g.out, HBW.out⟩
  case round =>
    clear F_g HBW
    obtain ⟨rfl, F_g, HBW⟩ := hrel
    go_wp2_with fail
    go_ret
    exact ⟨rfl, HBW.out⟩

set_option maxRecDepth 100000 in
set_option maxHeartbeats 8000000 in
theorem rmerge_nil {P Q G er : Int} {ps ss : List Int} (w : World) (hP : 0 ≤ P) (hQ : 0 ≤ Q) (hG : 0 ≤ G) (hv : mergeS P Q G [] = (er, ps, ss)) :
    Calls Try.prog 16 #[.agg #[.int .u64 P, .int .u64 Q, .int .u64 G], .slice none 0 0] w (RetDeal w er ps ss) := by
  by_cases hH : Has P Q G
  case neg =>
    obtain ⟨rfl, hps0⟩ := Prod.mk.inj (show (300, [], []) = (er, ps, ss) by rw [← hv]; simp [mergeS, hH])
    obtain ⟨rfl, rfl⟩ := Prod.mk.inj hps0
    have HAK := Lib.hid (askS_no (es := []) (ns := []) hH)
    clear hv hH hps0
    have F_g := Lib.hid (show Boxed ((w.alloc (.cells #[.int .u64 P, .int .u64 Q, .int .u64 G] 24)).alloc (.cells #[.slice none 0 0, .slice none 0 0] 27)) w.heap.size P Q G from (Boxed.at _ P Q G _ w.heap.size (by simp)).alloc _)
    have F_b := Lib.hid (show DealBox ((w.alloc (.cells #[.int .u64 P, .int .u64 Q, .int .u64 G] 24)).alloc (.cells #[.slice none 0 0, .slice none 0 0] 27)) (w.heap.size + 1) (.slice none 0 0) (.slice none 0 0) from DealBox.at _ _ _ _ (w.heap.size + 1) (by simp))
    have HBW := Lib.hid (show Below w.heap.size w ((w.alloc (.cells #[.int .u64 P, .int .u64 Q, .int .u64 G] 24)).alloc (.cells #[.slice none 0 0, .slice none 0 0] 27)) from ((Below.refl _ _).alloc (by simp <;> omega) _).alloc (by simp <;> omega) _)
    go_enter Try.func16, Try.ntmps16
    obtain ⟨g0, g1', g2', -⟩ := id F_g.out
    obtain ⟨y0, y1, y2, y3, -⟩ := id F_b.out
    go_wp2_with fail
    clear g0 g1' g2' y0 y1 y2 y3
    refine (rAsked_any _ hP hQ hG (ShL.nil _) (ShL.nil _) (by simp) (by simp) HAK.out).mono ?_
    rintro e w1 ⟨rfl, hb1⟩
    replace F_g := Lib.hid (F_g.out.keep hb1)
    replace F_b := Lib.hid (F_b.out.keep hb1)
    replace HBW := Lib.hid (HBW.out.trans (hb1.mono HBW.out.size))
    clear hb1
    obtain ⟨g0, g1', g2', -⟩ := id F_g.out
    obtain ⟨y0, y1, y2, y3, -⟩ := id F_b.out
    go_wp2_with fail
    clear g0 g1' g2' y0 y1 y2 y3
    exact bodyPost_ret (res_deal rfl (F_b.out.stored (.slice none 0 0) (.slice none 0 0)) _ rfl rfl rfl rfl) rfl ⟨_, _, rfl, OwnU.nil _ _, OwnU.nil _ _, (HBW.out.setCell (p := ⟨w.heap.size + 1, 0, none⟩) (by show w.heap.size ≤ w.heap.size + 1; omega) _).setCell (p := ⟨w.heap.size + 1, 1, none⟩) (by show w.heap.size ≤ w.heap.size + 1; omega) _⟩
  case pos =>
    obtain ⟨rfl, hps0⟩ := Prod.mk.inj (show (2, [], []) = (er, ps, ss) by rw [← hv]; simp [mergeS, hH])
    obtain ⟨rfl, rfl⟩ := Prod.mk.inj hps0
    have HAK := Lib.hid (show askS P Q G [] [] = 0 from askS_ok hH (by simp) (by simp))
    clear hv hH hps0
    have F_g := Lib.hid (show Boxed ((w.alloc (.cells #[.int .u64 P, .int .u64 Q, .int .u64 G] 24)).alloc (.cells #[.slice none 0 0, .slice none 0 0] 27)) w.heap.size P Q G from (Boxed.at _ P Q G _ w.heap.size (by simp)).alloc _)
    have F_b := Lib.hid (show DealBox ((w.alloc (.cells #[.int .u64 P, .int .u64 Q, .int .u64 G] 24)).alloc (.cells #[.slice none 0 0, .slice none 0 0] 27)) (w.heap.size + 1) (.slice none 0 0) (.slice none 0 0) from DealBox.at _ _ _ _ (w.heap.size + 1) (by simp))
    have HBW := Lib.hid (show Below w.heap.size w ((w.alloc (.cells #[.int .u64 P, .int .u64 Q, .int .u64 G] 24)).alloc (.cells #[.slice none 0 0, .slice none 0 0] 27)) from ((Below.refl _ _).alloc (by simp <;> omega) _).alloc (by simp <;> omega) _)
    go_enter Try.func16, Try.ntmps16
    obtain ⟨g0, g1', g2', -⟩ := id F_g.out
    obtain ⟨y0, y1, y2, y3, -⟩ := id F_b.out
    go_wp2_with fail
    clear g0 g1' g2' y0 y1 y2 y3
    refine (rAsked_any _ hP hQ hG (ShL.nil _) (ShL.nil _) (by simp) (by simp) HAK.out).mono ?_
    rintro e w1 ⟨rfl, hb1⟩
    replace F_g := Lib.hid (F_g.out.keep hb1)
    replace F_b := Lib.hid (F_b.out.keep hb1)
    replace HBW := Lib.hid (HBW.out.trans (hb1.mono HBW.out.size))
    clear hb1
    obtain ⟨g0, g1', g2', -⟩ := id F_g.out
    obtain ⟨y0, y1, y2, y3, -⟩ := id F_b.out
    go_wp2_with fail
    clear g0 g1' g2' y0 y1 y2 y3
    refine (rmergeable_nil _).mono ?_
    rintro e w2 ⟨rfl, hb2⟩
    replace F_g := Lib.hid (F_g.out.keep hb2)
    replace F_b := Lib.hid (F_b.out.keep hb2)
    replace HBW := Lib.hid (HBW.out.trans (hb2.mono HBW.out.size))
    clear hb2
    obtain ⟨g0, g1', g2', -⟩ := id F_g.out
    obtain ⟨y0, y1, y2, y3, -⟩ := id F_b.out
    go_wp2_with fail
    clear g0 g1' g2' y0 y1 y2 y3
    exact bodyPost_ret (res_deal rfl (F_b.out.stored (.slice none 0 0) (.slice none 0 0)) _ rfl rfl rfl rfl) rfl ⟨_, _, rfl, OwnU.nil _ _, OwnU.nil _ _, (HBW.out.setCell (p := ⟨w.heap.size + 1, 0, none⟩) (by show w.heap.size ≤ w.heap.size + 1; omega) _).setCell (p := ⟨w.heap.size + 1, 1, none⟩) (by show w.heap.size ≤ w.heap.size + 1; omega) _⟩

theorem mrgP_le (P : Int) : ∀ (t : List Dl) (os : List Int), (mrgP P os t).length ≤ os.length
  | [], os => Nat.le_refl _
  | D :: t, os => Nat.le_trans (mrgP_le P t _) (by rw [List.length_zipWith]; exact Nat.min_le_left _ _)
theorem mrgQ_le (P : Int) : ∀ (t : List Dl) (os : List Int), (mrgQ P os t).length ≤ os.length
  | [], os => Nat.le_refl _
  | D :: t, os => Nat.le_trans (mrgQ_le P t _) (by rw [List.length_zipWith]; exact Nat.min_le_left _ _)
theorem mergeS_len {P Q G er : Int} {l : List Dl} {ps ss : List Int} (h : mergeS P Q G l = (er, ps, ss)) : ps.length ≤ 8 ∧ ss.length ≤ 8 := by
  unfold mergeS at h
  split at h
  · cases l with
    | nil =>
      obtain ⟨-, h⟩ := Prod.mk.inj h
      obtain ⟨rfl, rfl⟩ := Prod.mk.inj h
      simp
    | cons E t =>
      simp only at h
      split at h
      · rename_i hb
        obtain ⟨-, h⟩ := Prod.mk.inj h
        obtain ⟨rfl, rfl⟩ := Prod.mk.inj h
        rw [Bool.and_eq_true] at hb
        have hE := fits_true (List.all_eq_true.1 hb.2 E (by simp))
        exact ⟨Nat.le_trans (mrgP_le P t _) (belowS_true hE.1).2.1, Nat.le_trans (mrgQ_le Q t _) (belowS_true hE.2.1).2.1⟩
      · obtain ⟨-, h⟩ := Prod.mk.inj h
        obtain ⟨rfl, rfl⟩ := Prod.mk.inj h
        simp
  · obtain ⟨-, h⟩ := Prod.mk.inj h
    obtain ⟨rfl, rfl⟩ := Prod.mk.inj h
    simp
theorem DRow.two {W : World} {A B : Dl} (T : TypeId) (hA : DlIn W A) (hB : DlIn W B) : DRow (W.alloc (.cells #[.slice A.a A.n A.c, .slice A.b A.m A.d, .slice B.a B.n B.c, .slice B.b B.m B.d] T)) W.heap.size 0 [A, B] := by
  refine ⟨by simp, fun i hi => ?_, fun D hD => ?_⟩
  · match i, hi with
    | 0, _ => exact ⟨by rw [World.cell?_alloc_new]; rfl, by rw [World.cell?_alloc_new]; rfl⟩
    | 1, _ => exact ⟨by rw [World.cell?_alloc_new]; rfl, by rw [World.cell?_alloc_new]; rfl⟩
  · simp at hD
    rcases hD with rfl | rfl
    · exact hA.keep ((Below.refl _ _).alloc (Nat.le_refl _) _)
    · exact hB.keep ((Below.refl _ _).alloc (Nat.le_refl _) _)
theorem DRow.three {W : World} {A B C : Dl} (T : TypeId) (hA : DlIn W A) (hB : DlIn W B) (hC : DlIn W C) : DRow (W.alloc (.cells #[.slice A.a A.n A.c, .slice A.b A.m A.d, .slice B.a B.n B.c, .slice B.b B.m B.d, .slice C.a C.n C.c, .slice C.b C.m C.d] T)) W.heap.size 0 [A, B, C] := by
  refine ⟨by simp, fun i hi => ?_, fun D hD => ?_⟩
  · match i, hi with
    | 0, _ => exact ⟨by rw [World.cell?_alloc_new]; rfl, by rw [World.cell?_alloc_new]; rfl⟩
    | 1, _ => exact ⟨by rw [World.cell?_alloc_new]; rfl, by rw [World.cell?_alloc_new]; rfl⟩
    | 2, _ => exact ⟨by rw [World.cell?_alloc_new]; rfl, by rw [World.cell?_alloc_new]; rfl⟩
  · simp at hD
    rcases hD with rfl | rfl | rfl
    · exact hA.keep ((Below.refl _ _).alloc (Nat.le_refl _) _)
    · exact hB.keep ((Below.refl _ _).alloc (Nat.le_refl _) _)
    · exact hC.keep ((Below.refl _ _).alloc (Nat.le_refl _) _)
end Go.Proofs.Ytjfaaicbojnpaaa
/- Merging deals adds polynomials: the plain law. -/
namespace Go.Proofs.Ytjfaaicbojnpaaa
open Go.RowKit Num
set_option linter.unusedSimpArgs false
set_option linter.unusedVariables false

theorem pv_add {Q i : Int} : ∀ xs ys : List Int, xs.length = ys.length → Cg Q (pv i (List.zipWith (addF Q) xs ys)) (pv i xs + pv i ys)
  | [], [], _ => Cg.of_eq (by simp [pv])
  | [], _ :: _, h => by simp at h
  | _ :: _, [], h => by simp at h
  | x :: xs, y :: ys, h => by
    have ih := pv_add (Q := Q) (i := i) xs ys (by simpa using h)
    show Cg Q (addF Q x y + i * pv i (List.zipWith (addF Q) xs ys)) ((x + i * pv i xs) + (y + i * pv i ys))
    refine ((cg_emod Q (x + y)).add (Cg.mul_left i ih)).trans (Cg.of_eq ?_)
    rw [Int.mul_add]
    omega
theorem merge_pledges {P Q G : Int} (g : Grp P Q G) : ∀ xs ys : List Int, (∀ x, x ∈ xs → 0 ≤ x) → (∀ y, y ∈ ys → 0 ≤ y) → List.zipWith (mulF P) (pledgesS P G xs) (pledgesS P G ys) = pledgesS P G (List.zipWith (addF Q) xs ys)
  | [], _, _, _ => by simp [pledgesS]
  | _ :: _, [], _, _ => by simp [pledgesS]
  | x :: xs, y :: ys, hx, hy => by
    have ih := merge_pledges g xs ys (fun z hz => hx z (by simp [hz])) (fun z hz => hy z (by simp [hz]))
    have x0 := hx x (by simp)
    have y0 := hy y (by simp)
    simp only [pledgesS, List.map_cons, List.zipWith_cons_cons] at ih ⊢
    rw [ih]
    congr 1
    show powm G x P * powm G y P % P = powm G ((x + y) % Q) P
    rw [← powm_add G P x0 y0]
    exact g.period g.mem_g (by omega)
theorem merge_shares {Q : Int} {xs ys : List Int} (h : xs.length = ys.length) (t : Nat) : List.zipWith (addF Q) (sharesS Q xs t) (sharesS Q ys t) = sharesS Q (List.zipWith (addF Q) xs ys) t := by
  apply List.ext_getElem (by simp [sharesS])
  intro j h1 h2
  simp only [sharesS, List.getElem_zipWith, List.getElem_map, List.getElem_range]
  show (valS Q ((j : Int) + 1) xs + valS Q ((j : Int) + 1) ys) % Q = valS Q ((j : Int) + 1) (List.zipWith (addF Q) xs ys)
  exact (((cg_emod Q _).add (cg_emod Q _)).trans (pv_add xs ys h).symm).emod_eq
theorem belowS_mk {L : Int} {xs : List Int} (h1 : 1 ≤ xs.length) (h8 : xs.length ≤ 8) (h : ∀ x, x ∈ xs → x < L) : belowS L xs = true := by
  simp only [belowS, Bool.and_eq_true, decide_eq_true_eq, okAll, List.all_eq_true]
  exact ⟨⟨h1, h8⟩, h⟩
theorem pledges_rng {P G : Int} (hP : 0 < P) (xs : List Int) : ∀ x, x ∈ pledgesS P G xs → 0 ≤ x ∧ x < P := fun x hx => by
  obtain ⟨y, -, rfl⟩ := List.mem_map.1 hx
  exact ⟨powm_nonneg hP, powm_lt hP⟩
theorem shares_rng {Q : Int} (hQ : 0 < Q) (xs : List Int) (t : Nat) : ∀ x, x ∈ sharesS Q xs t → 0 ≤ x ∧ x < Q := fun x hx => by
  obtain ⟨y, -, rfl⟩ := List.mem_map.1 hx
  exact valS_range _ hQ _
theorem merges {P Q G i : Int} {xs ys : List Int} {C E : Dl} (hV : Valid P Q G) (bx : belowS Q xs = true) (by_ : belowS Q ys = true) (ux : ∀ x, x ∈ xs → U64 x) (uy : ∀ x, x ∈ ys → U64 x) (hl : xs.length = ys.length) (hlt : (xs.length : Int) ≤ i) (hn : numS Q i = true)
    (c1 : C.xs = pledgesS P G xs) (c2 : C.ys = sharesS Q xs i.toNat) (d1 : E.xs = pledgesS P G ys) (d2 : E.ys = sharesS Q ys i.toNat) :
    mergeS P Q G [C, E] = (0, pledgesS P G (List.zipWith (addF Q) xs ys), sharesS Q (List.zipWith (addF Q) xs ys) i.toNat) ∧ splitS P Q G i (List.zipWith (addF Q) xs ys) = (0, pledgesS P G (List.zipWith (addF Q) xs ys), sharesS Q (List.zipWith (addF Q) xs ys) i.toNat) := by
  have g := hV.grp
  have hH := hV.has
  obtain ⟨l1, l8, -⟩ := belowS_true bx
  obtain ⟨n0, n8, nQ⟩ := numS_true hn
  have p5 := g.five
  have q2 := g.pQ.1
  have hz : (List.zipWith (addF Q) xs ys).length = xs.length := by rw [List.length_zipWith, ← hl]; exact Nat.min_self _
  constructor
  · have f : ∀ D : Dl, (D = C ∨ D = E) → fitsS P Q D.xs D.ys C.xs C.ys = true := by
      intro D hD
      have h : ∃ zs : List Int, D.xs = pledgesS P G zs ∧ D.ys = sharesS Q zs i.toNat ∧ zs.length = xs.length := by
        rcases hD with rfl | rfl
        · exact ⟨xs, c1, c2, rfl⟩
        · exact ⟨ys, d1, d2, hl.symm⟩
      obtain ⟨zs, e1, e2, e3⟩ := h
      have a1 : belowS P D.xs = true := by rw [e1]; exact belowS_mk (by rw [pledges_len]; omega) (by rw [pledges_len]; omega) fun x hx => (pledges_rng (by omega) zs x hx).2
      have a2 : belowS Q D.ys = true := by rw [e2]; exact belowS_mk (by rw [shares_len]; omega) (by rw [shares_len]; omega) fun x hx => (shares_rng (by omega) zs _ x hx).2
      rw [fitsS, a1, a2, e1, e2, c1, c2, pledges_len, pledges_len, shares_len, shares_len]
      simp [e3]
      omega
    have hm : mallS P Q C [C, E] = true := by simp [mallS, f C (.inl rfl), f E (.inr rfl)]
    have e : mergeS P Q G [C, E] = (0, mrgP P C.xs [E], mrgQ Q C.ys [E]) := by
      simp [mergeS, hH, hm]
    rw [e, mrgP, mrgQ]
    simp only [List.foldl_cons, List.foldl_nil]
    rw [c1, c2, d1, d2, merge_pledges g xs ys (fun x hx => (ux x hx).1) (fun x hx => (uy x hx).1), merge_shares hl]
  · have hb : belowS Q (List.zipWith (addF Q) xs ys) = true := belowS_mk (by omega) (by omega) fun x hx => by
      obtain ⟨j, hj, rfl⟩ := List.mem_iff_getElem.1 hx
      rw [List.getElem_zipWith]
      exact Int.emod_lt_of_pos _ (by omega)
    rw [splitS, if_pos hH, hb, hn, hz, decide_eq_true hlt]
    rfl
theorem OwnU.drew {W : World} {n₀ : Nat} {v : Value} {xs : List Int} (h : OwnU W n₀ v xs) : OwnU W.drew n₀ v xs := h.keep (Below.refl _ _).drew
/-- A number put behind a row of the walk's own. -/
theorem push_z {W0 wr w8 : World} {v7 v8 : Value} {vs : List Int} {x : Int} {tmp : Obj} (hs : OwnU wr W0.heap.size v7 vs) (hw : Below W0.heap.size W0 wr) (hown : w8.ownsRow W0.heap.size 22 1 v8 (vs.length + 1) (vs.map (Value.int IntKind.u64) ++ [.int .u64 x])) (hgr : (wr.alloc tmp).grownBy w8 v7.ownBlock) :
    OwnU w8 W0.heap.size v8 (vs ++ [x]) ∧ Below W0.heap.size W0 w8 := by
  have hb := Below.row (n := W0.heap.size) hgr (fun j hj => (hs.lt j hj).1) (by have := hw.size; simp; omega)
  refine ⟨?_, (hw.alloc hw.size tmp).trans (hb.mono (Nat.le_refl _))⟩
  unfold OwnU; rw [List.length_append, List.map_append]; exact hown
end Go.Proofs.Ytjfaaicbojnpaaa
