/- proof.bitCheck with no further exponents, BitVerify. -/
import Derived.Test.YtlbldpkgnonbpaaGreatDoorQsM
import Derived.Deep.MidRow
set_option linter.unusedSimpArgs false
set_option linter.unusedVariables false
set_option maxRecDepth 100000
namespace Go.Proofs.YtlbldpkgnonbpaaGreatDoor
open Go Go.RowKit Num Sha
def bhP (P Q G y a b r0 r1 s0 s1 c0 c1 z0 z1 c : Int) : Prop := (powm G z0 P = r0 * powm a c0 P % P ∧ powm y z0 P = s0 * powm b c0 P % P) ∧ (powm G z1 P = r1 * powm a c1 P % P ∧ powm y z1 P = s1 * powm (b * powm G ((0 - 1) % Q) P % P) c1 P % P) ∧ (c0 + c1) % Q = c
def bvP (P Q G y a b r0 r1 s0 s1 c0 c1 z0 z1 : Int) (T : List Int) : Prop := memsP P Q [y, a, b, r0, r1, s0, s1] ∧ bhP P Q G y a b r0 r1 s0 s1 c0 c1 z0 z1 (chV Q [y, a, b, r0, s0, r1, s1] T)
set_option maxHeartbeats 8000000 in
theorem bitCheck0_any {P Q G y a b r r0 r1 s0 s1 c0 c1 z0 z1 : Int} (w : World) (hP : 0 ≤ P) (hQ : 0 ≤ Q) (hG : 0 ≤ G) (hr : askS P Q G [c0, c1, z0, z1] [y, a, b, r0, r1, s0, s1] = r) :
 Calls Tryz.prog 131 #[.agg #[υ P, υ Q, υ G], υ y, .agg #[υ a, υ b], .agg #[υ r0, υ r1, υ s0, υ s1, υ c0, υ c1, υ z0, υ z1], .slice none 0 0] w fun e w' => e = .returned (.int .i64 r) ∧ Below w.heap.size w w' := by
 obtain ⟨i0, hi, hz0, hz1, hz2⟩ := info_parts (P := Tryz.prog) (e := 22) (z := υ 0) (size := 1) (bytes := 8) (by kernel_rfl)
 have HR := Lh hr
 have HOW := Lh (show World.ownsRow (((w.alloc (.cells #[υ P, υ Q, υ G] 24)).alloc (.cells #[υ a, υ b] 75)).alloc (.cells #[υ r0, υ r1, υ s0, υ s1, υ c0, υ c1, υ z0, υ z1] 31)) w.heap.size 22 1 (.slice none 0 0) 0 [] from World.ownsRow_nil _ _ _ _)
 have F_g := Lh (show Boxed (((w.alloc (.cells #[υ P, υ Q, υ G] 24)).alloc (.cells #[υ a, υ b] 75)).alloc (.cells #[υ r0, υ r1, υ s0, υ s1, υ c0, υ c1, υ z0, υ z1] 31)) w.heap.size P Q G from ((Boxed.at _ P Q G _ w.heap.size rfl).alloc _).alloc _)
 have F_s := Lh (show Pair (((w.alloc (.cells #[υ P, υ Q, υ G] 24)).alloc (.cells #[υ a, υ b] 75)).alloc (.cells #[υ r0, υ r1, υ s0, υ s1, υ c0, υ c1, υ z0, υ z1] 31)) (w.heap.size + 1) a b from (Pair.at _ a b _ (w.heap.size + 1) (by simp)).alloc _)
 have F_p := Lh (show Eight (((w.alloc (.cells #[υ P, υ Q, υ G] 24)).alloc (.cells #[υ a, υ b] 75)).alloc (.cells #[υ r0, υ r1, υ s0, υ s1, υ c0, υ c1, υ z0, υ z1] 31)) (w.heap.size + 1 + 1) r0 r1 s0 s1 c0 c1 z0 z1 from Eight.at _ r0 r1 s0 s1 c0 c1 z0 z1 _ (w.heap.size + 1 + 1) (by simp))
 have HBW := Lh (show Below w.heap.size w (((w.alloc (.cells #[υ P, υ Q, υ G] 24)).alloc (.cells #[υ a, υ b] 75)).alloc (.cells #[υ r0, υ r1, υ s0, υ s1, υ c0, υ c1, υ z0, υ z1] 31)) from (((Below.refl _ _).alloc (by simp) _).alloc (by simp <;> omega) _).alloc (by simp <;> omega) _)
 clear hr
 go_enter Tryz.func131, Tryz.ntmps131
 go_wp2_with fail
 have hS := And.intro (F_g.o.drew).s (And.intro (F_s.o.drew).s (F_p.o.drew).s)
 refine wp_region_stage 34 (fun w' => SBox w' w.heap.size P Q G ∧ SPair w' (w.heap.size + 1) a b ∧ S8 w' (w.heap.size + 1 + 1) r0 r1 s0 s1 c0 c1 z0 z1) (by kernel_rfl) ?_
 refine tk8 0 (some 11) (.load 24 (.tmp 5)) 24 [34] ?_
 simp only [sY]
 refine tkQ 1 (some 12) (.move (.tmp 4)) 34 ?_
 simp only [sY]
 refine tkQ 2 (some 13) (.fieldAddr 31 (.tmp 8) 2) 0 ?_
 simp only [sY]
 refine tkQ 3 (some 14) (.indexAddr 29 (.tmp 13) (.const (.int .i64 0))) 0 ?_
 simp only [sY]
 refine tk8 4 (some 15) (.load 22 (.tmp 14)) 22 [14, 15, 34] ?_
 simp only [sY]
 refine tkQ 5 (some 16) (.fieldAddr 31 (.tmp 8) 2) 0 ?_
 simp only [sY]
 refine tkQ 6 (some 17) (.indexAddr 29 (.tmp 16) (.const (.int .i64 1))) 0 ?_
 simp only [sY]
 refine tk8 7 (some 18) (.load 22 (.tmp 17)) 22 [14, 15, 34] ?_
 simp only [sY]
 refine tkQ 8 (some 19) (.fieldAddr 31 (.tmp 8) 3) 0 ?_
 simp only [sY]
 refine tkQ 9 (some 20) (.indexAddr 29 (.tmp 19) (.const (.int .i64 0))) 0 ?_
 simp only [sY]
 refine tk8 10 (some 21) (.load 22 (.tmp 20)) 22 [14, 15, 34] ?_
 simp only [sY]
 refine tkQ 11 (some 22) (.fieldAddr 31 (.tmp 8) 3) 0 ?_
 simp only [sY]
 refine tkQ 12 (some 23) (.indexAddr 29 (.tmp 22) (.const (.int .i64 1))) 0 ?_
 simp only [sY]
 refine tk8 13 (some 24) (.load 22 (.tmp 23)) 22 [14, 15, 34] ?_
 simp only [sY]
 refine tkQ 16 (some 27) (.move (.tmp 1)) 22 ?_
 simp only [sY]
 refine tkQ 17 (some 28) (.fieldAddr 75 (.tmp 7) 0) 0 ?_
 simp only [sY]
 refine tk8 18 (some 29) (.load 22 (.tmp 28)) 22 [33, 34] ?_
 simp only [sY]
 refine tkQ 19 (some 30) (.fieldAddr 75 (.tmp 7) 1) 0 ?_
 simp only [sY]
 refine tk8 20 (some 31) (.load 22 (.tmp 30)) 22 [33, 34] ?_
 simp only [sY]
 refine tkQ 21 (some 32) (.fieldAddr 31 (.tmp 8) 0) 0 ?_
 simp only [sY]
 refine tkQ 22 (some 33) (.indexAddr 29 (.tmp 32) (.const (.int .i64 0))) 0 ?_
 simp only [sY]
 refine tk8 23 (some 34) (.load 22 (.tmp 33)) 22 [33, 34] ?_
 simp only [sY]
 refine tkQ 24 (some 35) (.fieldAddr 31 (.tmp 8) 0) 0 ?_
 simp only [sY]
 refine tkQ 25 (some 36) (.indexAddr 29 (.tmp 35) (.const (.int .i64 1))) 0 ?_
 simp only [sY]
 refine tk8 26 (some 37) (.load 22 (.tmp 36)) 22 [33, 34] ?_
 simp only [sY]
 refine tkQ 27 (some 38) (.fieldAddr 31 (.tmp 8) 1) 0 ?_
 simp only [sY]
 refine tkQ 28 (some 39) (.indexAddr 29 (.tmp 38) (.const (.int .i64 0))) 0 ?_
 simp only [sY]
 refine tk8 29 (some 40) (.load 22 (.tmp 39)) 22 [33, 34] ?_
 simp only [sY]
 refine tkQ 30 (some 41) (.fieldAddr 31 (.tmp 8) 1) 0 ?_
 simp only [sY]
 refine tkQ 31 (some 42) (.indexAddr 29 (.tmp 41) (.const (.int .i64 1))) 0 ?_
 simp only [sY]
 refine tk8 32 (some 43) (.load 22 (.tmp 42)) 22 [33, 34] ?_
 simp only [sY]
 refine wpAnyB_two (i := 14) (j := 33) (some 25) (Op.buildSlice 34 4 #[(0, Operand.tmp 15), (1, Operand.tmp 18), (2, Operand.tmp 21), (3, Operand.tmp 24)]) 34 (some 44) (Op.buildSlice 34 7 #[(0, Operand.tmp 27), (1, Operand.tmp 29), (2, Operand.tmp 31), (3, Operand.tmp 34), (4, Operand.tmp 37), (5, Operand.tmp 40), (6, Operand.tmp 43)]) 34 ⟨_, rfl, rfl, rfl, rfl, rfl⟩ ⟨_, rfl, rfl, rfl, rfl, rfl⟩ (by kernel_rfl) (fun K hK => ?_) (fun K hK => ?_)
 · skip
   unfold bareOp
   go_wp2_with fail
   replace F_g := Lh (F_g.o.alloc (.cells #[υ c0, υ c1, υ z0, υ z1] 22))
   replace F_s := Lh (F_s.o.alloc (.cells #[υ c0, υ c1, υ z0, υ z1] 22))
   replace F_p := Lh (F_p.o.alloc (.cells #[υ c0, υ c1, υ z0, υ z1] 22))
   replace HOW := Lh (HOW.o.alloc (.cells #[υ c0, υ c1, υ z0, υ z1] 22))
   have F_X := Lh (ShL.laid (((w.alloc (.cells #[υ P, υ Q, υ G] 24)).alloc (.cells #[υ a, υ b] 75)).alloc (.cells #[υ r0, υ r1, υ s0, υ s1, υ c0, υ c1, υ z0, υ z1] 31)) [c0, c1, z0, z1] _ 22 (w.heap.size + 1 + 1 + 1) 4 4 (by simp) rfl rfl)
   replace HBW := Lh (HBW.o.alloc (by have h := HBW.o.size; omega) (.cells #[υ c0, υ c1, υ z0, υ z1] 22))
   replace hS := And.intro (F_g.o.drew).s (And.intro (F_s.o.drew).s (F_p.o.drew).s)
   refine hK.o _ _ (fun _ => hS) ?_
   clear hK K
   try simp only [sY]
   refine wpAnyB_two (i := 15) (j := 33) (some 26) (Op.call { callee := Callee.builtin Builtin.append, args := #[Operand.tmp 12, Operand.tmp 25], argTypes := #[34, 34] }) 34 (some 44) (Op.buildSlice 34 7 #[(0, Operand.tmp 27), (1, Operand.tmp 29), (2, Operand.tmp 31), (3, Operand.tmp 34), (4, Operand.tmp 37), (5, Operand.tmp 40), (6, Operand.tmp 43)]) 34 ⟨_, rfl, rfl, rfl, rfl, rfl⟩ ⟨_, rfl, rfl, rfl, rfl, rfl⟩ (by kernel_rfl) (fun K hK => ?_) (fun K hK => ?_)
   · skip
     unfold bareOp
     refine wp_append_own _ _ _ 34 rfl w.heap.size 22 i0 (υ 0) 1 8 Tryz.underlying34 hi hz0 hz1 hz2 rfl (by decide) _ _ _ rfl (HOW.o.drew) _ 4 4 [υ c0, υ c1, υ z0, υ z1] rfl rfl ((F_X.o.drew).cells) (fun z hz => by simp at hz; rcases hz with rfl | rfl | rfl | rfl <;> rfl) (by unfold maxLen; omega) (by omega) (by have h := HBW.o.size; simp at h ⊢; omega) ?_
     intro v' w5 hown hgr hnil
     have hnk : ∀ q : Nat, w.heap.size ≤ q → some q ≠ none := fun q hq h => by cases h
     replace F_g := Lh (boxed_grown (F_g.o.drew) hgr (hnk _ (by omega)))
     have hsp_ := pair_grown (F_s.o.drew).s (F_s.o.drew).lt hgr (hnk _ (by omega))
     replace F_p := Lh ((F_p.o.drew).grown hgr (hnk _ (by omega)))
     obtain ⟨ea, ec, hv5, he5⟩ := ShL.of_owned (xs := [c0, c1, z0, z1]) hown
     subst hv5
     have F_E := Lh he5
     replace HBW := Lh (Below.grown (HBW.o.drew) hgr (by have h := HBW.o.size; simp at h ⊢; omega) (fun j hj => by cases hj))
     replace hS := And.intro F_g.o.s (And.intro (show SPair w5 (w.heap.size + 1) a b from hsp_) F_p.o.s)
     clear hown hgr hnil he5 F_s F_X HOW hnk
     refine hK.o _ _ (fun _ => hS) ?_
     clear hK K
     try simp only [sY]
     refine onl (i := 33) (some 44) (.buildSlice 34 7 #[(0, .tmp 27), (1, .tmp 29), (2, .tmp 31), (3, .tmp 34), (4, .tmp 37), (5, .tmp 40), (6, .tmp 43)]) 34 (fun K hK => ?_)
     have hl1 : w.heap.size + 1 < w5.heap.size := by have h := F_p.o.lt; omega
     unfold bareOp
     go_wp2_with fail
     replace F_E := Lh (F_E.o.alloc (.cells #[υ y, υ a, υ b, υ r0, υ r1, υ s0, υ s1] 22))
     have F_Y := Lh (ShL.laid w5 [y, a, b, r0, r1, s0, s1] _ 22 w5.heap.size 7 7 rfl rfl rfl)
     replace HBW := Lh (HBW.o.alloc (by have h := HBW.o.size; omega) (.cells #[υ y, υ a, υ b, υ r0, υ r1, υ s0, υ s1] 22))
     replace hS := And.intro (F_g.o.alloc (.cells #[υ y, υ a, υ b, υ r0, υ r1, υ s0, υ s1] 22)).s (And.intro (show SPair (w5.alloc (.cells #[υ y, υ a, υ b, υ r0, υ r1, υ s0, υ s1] 22)) (w.heap.size + 1) a b from ⟨(World.cell?_alloc_past _ _ _ hl1).trans hS.2.1.1, (World.cell?_alloc_past _ _ _ hl1).trans hS.2.1.2⟩) (F_p.o.alloc (.cells #[υ y, υ a, υ b, υ r0, υ r1, υ s0, υ s1] 22)).s)
     refine hK.o _ _ (fun _ => hS) ?_
     clear hK K
     try simp only [sY]
     refine onl (i := 34) (some 45) (.call { callee := .value (.func 64), args := #[.tmp 11, .tmp 26, .tmp 44], argTypes := #[24, 34, 34] }) 38 (fun K hK => ?_)
     unfold bareOp
     go_wp2_with (go_at_call 64; refine (pcheck_any _ hP hQ hG F_E.o F_Y.o (by simp) (by simp) HR.o).mono ?_; rintro e w6 ⟨rfl, hb6⟩)
     replace HBW := Lh (HBW.o.trans (hb6.mono (by have h := HBW.o.size; simp at h ⊢; omega)))
     clear hb6
     refine hK.o _ _ lt8 ?_
     clear hK K
     try simp only [sY]
     refine tkP (i := 35) (some 10) (.assign (.tmp 45)) 38 lt8 ?_
     simp only [sY]
     refine wpAnyB_done (by kernel_rfl) ?_ _
     go_wp2_with fail
     go_ret
     exact ⟨rfl, HBW.o⟩
   · skip
     unfold bareOp
     go_wp2_with fail
     replace F_g := Lh (F_g.o.alloc (.cells #[υ y, υ a, υ b, υ r0, υ r1, υ s0, υ s1] 22))
     replace F_s := Lh (F_s.o.alloc (.cells #[υ y, υ a, υ b, υ r0, υ r1, υ s0, υ s1] 22))
     replace F_p := Lh (F_p.o.alloc (.cells #[υ y, υ a, υ b, υ r0, υ r1, υ s0, υ s1] 22))
     replace F_X := Lh (F_X.o.alloc (.cells #[υ y, υ a, υ b, υ r0, υ r1, υ s0, υ s1] 22))
     replace HOW := Lh (HOW.o.alloc (.cells #[υ y, υ a, υ b, υ r0, υ r1, υ s0, υ s1] 22))
     have F_Y := Lh (ShL.laid ((((w.alloc (.cells #[υ P, υ Q, υ G] 24)).alloc (.cells #[υ a, υ b] 75)).alloc (.cells #[υ r0, υ r1, υ s0, υ s1, υ c0, υ c1, υ z0, υ z1] 31)).alloc (.cells #[υ c0, υ c1, υ z0, υ z1] 22)) [y, a, b, r0, r1, s0, s1] _ 22 (w.heap.size + 1 + 1 + 1 + 1) 7 7 (by simp) rfl rfl)
     replace HBW := Lh (HBW.o.alloc (by have h := HBW.o.size; omega) (.cells #[υ y, υ a, υ b, υ r0, υ r1, υ s0, υ s1] 22))
     replace hS := And.intro (F_g.o.drew).s (And.intro (F_s.o.drew).s (F_p.o.drew).s)
     refine hK.o _ _ (fun _ => hS) ?_
     clear hK K
     try simp only [sY]
     refine onl (i := 15) (some 26) (.call { callee := .builtin .append, args := #[.tmp 12, .tmp 25], argTypes := #[34, 34] }) 34 (fun K hK => ?_)
     unfold bareOp
     refine wp_append_own _ _ _ 34 rfl w.heap.size 22 i0 (υ 0) 1 8 Tryz.underlying34 hi hz0 hz1 hz2 rfl (by decide) _ _ _ rfl (HOW.o.drew) _ 4 4 [υ c0, υ c1, υ z0, υ z1] rfl rfl ((F_X.o.drew).cells) (fun z hz => by simp at hz; rcases hz with rfl | rfl | rfl | rfl <;> rfl) (by unfold maxLen; omega) (by omega) (by have h := HBW.o.size; simp at h ⊢; omega) ?_
     intro v' w5 hown hgr hnil
     have hnk : ∀ q : Nat, w.heap.size ≤ q → some q ≠ none := fun q hq h => by cases h
     replace F_g := Lh (boxed_grown (F_g.o.drew) hgr (hnk _ (by omega)))
     have hsp_ := pair_grown (F_s.o.drew).s (F_s.o.drew).lt hgr (hnk _ (by omega))
     replace F_p := Lh ((F_p.o.drew).grown hgr (hnk _ (by omega)))
     replace F_Y := Lh (shl_grown (F_Y.o.drew) hgr (hnk _ (by omega)))
     obtain ⟨ea, ec, hv5, he5⟩ := ShL.of_owned (xs := [c0, c1, z0, z1]) hown
     subst hv5
     have F_E := Lh he5
     replace HBW := Lh (Below.grown (HBW.o.drew) hgr (by have h := HBW.o.size; simp at h ⊢; omega) (fun j hj => by cases hj))
     replace hS := And.intro F_g.o.s (And.intro (show SPair w5 (w.heap.size + 1) a b from hsp_) F_p.o.s)
     clear hown hgr hnil he5 F_s F_X HOW hnk
     refine hK.o _ _ (fun _ => hS) ?_
     clear hK K
     try simp only [sY]
     refine onl (i := 34) (some 45) (.call { callee := .value (.func 64), args := #[.tmp 11, .tmp 26, .tmp 44], argTypes := #[24, 34, 34] }) 38 (fun K hK => ?_)
     unfold bareOp
     go_wp2_with (go_at_call 64; refine (pcheck_any _ hP hQ hG F_E.o F_Y.o (by simp) (by simp) HR.o).mono ?_; rintro e w6 ⟨rfl, hb6⟩)
     replace HBW := Lh (HBW.o.trans (hb6.mono (by have h := HBW.o.size; simp at h ⊢; omega)))
     clear hb6
     refine hK.o _ _ lt8 ?_
     clear hK K
     try simp only [sY]
     refine tkP (i := 35) (some 10) (.assign (.tmp 45)) 38 lt8 ?_
     simp only [sY]
     refine wpAnyB_done (by kernel_rfl) ?_ _
     go_wp2_with fail
     go_ret
     exact ⟨rfl, HBW.o⟩
 · skip
   unfold bareOp
   go_wp2_with fail
   replace F_g := Lh (F_g.o.alloc (.cells #[υ y, υ a, υ b, υ r0, υ r1, υ s0, υ s1] 22))
   replace F_s := Lh (F_s.o.alloc (.cells #[υ y, υ a, υ b, υ r0, υ r1, υ s0, υ s1] 22))
   replace F_p := Lh (F_p.o.alloc (.cells #[υ y, υ a, υ b, υ r0, υ r1, υ s0, υ s1] 22))
   replace HOW := Lh (HOW.o.alloc (.cells #[υ y, υ a, υ b, υ r0, υ r1, υ s0, υ s1] 22))
   have F_Y := Lh (ShL.laid (((w.alloc (.cells #[υ P, υ Q, υ G] 24)).alloc (.cells #[υ a, υ b] 75)).alloc (.cells #[υ r0, υ r1, υ s0, υ s1, υ c0, υ c1, υ z0, υ z1] 31)) [y, a, b, r0, r1, s0, s1] _ 22 (w.heap.size + 1 + 1 + 1) 7 7 (by simp) rfl rfl)
   replace HBW := Lh (HBW.o.alloc (by have h := HBW.o.size; omega) (.cells #[υ y, υ a, υ b, υ r0, υ r1, υ s0, υ s1] 22))
   replace hS := And.intro (F_g.o.drew).s (And.intro (F_s.o.drew).s (F_p.o.drew).s)
   refine hK.o _ _ (fun _ => hS) ?_
   clear hK K
   try simp only [sY]
   refine onl (i := 14) (some 25) (.buildSlice 34 4 #[(0, .tmp 15), (1, .tmp 18), (2, .tmp 21), (3, .tmp 24)]) 34 (fun K hK => ?_)
   unfold bareOp
   go_wp2_with fail
   replace F_g := Lh (F_g.o.alloc (.cells #[υ c0, υ c1, υ z0, υ z1] 22))
   replace F_s := Lh (F_s.o.alloc (.cells #[υ c0, υ c1, υ z0, υ z1] 22))
   replace F_p := Lh (F_p.o.alloc (.cells #[υ c0, υ c1, υ z0, υ z1] 22))
   replace F_Y := Lh (F_Y.o.alloc (.cells #[υ c0, υ c1, υ z0, υ z1] 22))
   replace HOW := Lh (HOW.o.alloc (.cells #[υ c0, υ c1, υ z0, υ z1] 22))
   have F_X := Lh (ShL.laid ((((w.alloc (.cells #[υ P, υ Q, υ G] 24)).alloc (.cells #[υ a, υ b] 75)).alloc (.cells #[υ r0, υ r1, υ s0, υ s1, υ c0, υ c1, υ z0, υ z1] 31)).alloc (.cells #[υ y, υ a, υ b, υ r0, υ r1, υ s0, υ s1] 22)) [c0, c1, z0, z1] _ 22 (w.heap.size + 1 + 1 + 1 + 1) 4 4 (by simp) rfl rfl)
   replace HBW := Lh (HBW.o.alloc (by have h := HBW.o.size; omega) (.cells #[υ c0, υ c1, υ z0, υ z1] 22))
   replace hS := And.intro (F_g.o.drew).s (And.intro (F_s.o.drew).s (F_p.o.drew).s)
   refine hK.o _ _ (fun _ => hS) ?_
   clear hK K
   try simp only [sY]
   refine onl (i := 15) (some 26) (.call { callee := .builtin .append, args := #[.tmp 12, .tmp 25], argTypes := #[34, 34] }) 34 (fun K hK => ?_)
   unfold bareOp
   refine wp_append_own _ _ _ 34 rfl w.heap.size 22 i0 (υ 0) 1 8 Tryz.underlying34 hi hz0 hz1 hz2 rfl (by decide) _ _ _ rfl (HOW.o.drew) _ 4 4 [υ c0, υ c1, υ z0, υ z1] rfl rfl ((F_X.o.drew).cells) (fun z hz => by simp at hz; rcases hz with rfl | rfl | rfl | rfl <;> rfl) (by unfold maxLen; omega) (by omega) (by have h := HBW.o.size; simp at h ⊢; omega) ?_
   intro v' w5 hown hgr hnil
   have hnk : ∀ q : Nat, w.heap.size ≤ q → some q ≠ none := fun q hq h => by cases h
   replace F_g := Lh (boxed_grown (F_g.o.drew) hgr (hnk _ (by omega)))
   have hsp_ := pair_grown (F_s.o.drew).s (F_s.o.drew).lt hgr (hnk _ (by omega))
   replace F_p := Lh ((F_p.o.drew).grown hgr (hnk _ (by omega)))
   replace F_Y := Lh (shl_grown (F_Y.o.drew) hgr (hnk _ (by omega)))
   obtain ⟨ea, ec, hv5, he5⟩ := ShL.of_owned (xs := [c0, c1, z0, z1]) hown
   subst hv5
   have F_E := Lh he5
   replace HBW := Lh (Below.grown (HBW.o.drew) hgr (by have h := HBW.o.size; simp at h ⊢; omega) (fun j hj => by cases hj))
   replace hS := And.intro F_g.o.s (And.intro (show SPair w5 (w.heap.size + 1) a b from hsp_) F_p.o.s)
   clear hown hgr hnil he5 F_s F_X HOW hnk
   refine hK.o _ _ (fun _ => hS) ?_
   clear hK K
   try simp only [sY]
   refine onl (i := 34) (some 45) (.call { callee := .value (.func 64), args := #[.tmp 11, .tmp 26, .tmp 44], argTypes := #[24, 34, 34] }) 38 (fun K hK => ?_)
   unfold bareOp
   go_wp2_with (go_at_call 64; refine (pcheck_any _ hP hQ hG F_E.o F_Y.o (by simp) (by simp) HR.o).mono ?_; rintro e w6 ⟨rfl, hb6⟩)
   replace HBW := Lh (HBW.o.trans (hb6.mono (by have h := HBW.o.size; simp at h ⊢; omega)))
   clear hb6
   refine hK.o _ _ lt8 ?_
   clear hK K
   try simp only [sY]
   refine tkP (i := 35) (some 10) (.assign (.tmp 45)) 38 lt8 ?_
   simp only [sY]
   refine wpAnyB_done (by kernel_rfl) ?_ _
   go_wp2_with fail
   go_ret
   exact ⟨rfl, HBW.o⟩
set_option maxHeartbeats 8000000 in
theorem pbitVerify_any {P Q G y a b r0 r1 s0 s1 c0 c1 z0 z1 e' : Int} {v : Bool} {tx : Option Addr} {n cp : Nat} {T : List Int} (w : World) (hT : Txt w tx n T) (hP : 0 ≤ P) (hQ : 0 ≤ Q) (hG : 0 ≤ G) (y0 : 0 ≤ y) (a0 : 0 ≤ a) (b_0 : 0 ≤ b) (r0_0 : 0 ≤ r0) (r1_0 : 0 ≤ r1) (s0_0 : 0 ≤ s0) (s1_0 : 0 ≤ s1) (c0_0 : 0 ≤ c0) (c1_0 : 0 ≤ c1) (z0_0 : 0 ≤ z0) (z1_0 : 0 ≤ z1) (hn : n ≤ 8100) (h : RetB (lgS (askS P Q G [c0, c1, z0, z1] [y, a, b, r0, r1, s0, s1]) n) (bvP P Q G y a b r0 r1 s0 s1 c0 c1 z0 z1 T) v e') :
 Calls Tryz.prog 113 #[.agg #[υ P, υ Q, υ G], υ y, .agg #[υ a, υ b], .agg #[υ r0, υ r1, υ s0, υ s1, υ c0, υ c1, υ z0, υ z1], .slice tx n cp] w fun e w' => e = .returned (.tuple #[.bool v, .int .i64 e']) ∧ Below w.heap.size w w' := by
 have HT := Lh hT
 clear hT
 rcases h with ⟨h, hv, rfl⟩ | ⟨h, rfl, hc⟩
 · obtain ⟨h, hn8⟩ := lgS_zero h
   obtain ⟨hH, he, hnn⟩ := askS_zero h
   have HR := Lh h
   have HV := Lh hv
   have HLG := Lh (show lgS 0 n = 0 from lgS_ok rfl hn8)
   have c0_Q := he c0 (by simp)
   have c1_Q := he c1 (by simp)
   have z0_Q := he z0 (by simp)
   have z1_Q := he z1 (by simp)
   have y_P := hnn y (by simp)
   have a_P := hnn a (by simp)
   have b_P := hnn b (by simp)
   have r0_P := hnn r0 (by simp)
   have r1_P := hnn r1 (by simp)
   have s0_P := hnn s0 (by simp)
   have s1_P := hnn s1 (by simp)
   clear h hv he hnn
   obtain ⟨p5, p3, hQ', pq, g2, gP⟩ := id hH
   have hP1 : 1 ≤ P := by omega
   have hGM : G < 2147483648 := by omega
   have q3 : Q < 1073741824 := by omega
   have q2 : 2 ≤ Q := by omega
   have HH := Lh hH
   clear hH pq
   have HRG := Lh (show ∀ z, z ∈ [y, a, b, r0, r1, s0, s1] → 0 ≤ z ∧ z < P from fun z hz => by
    simp at hz
    rcases hz with rfl | rfl | rfl | rfl | rfl | rfl | rfl <;> exact ⟨by assumption, by assumption⟩)
   have HUS := Lh (show ∀ z, z ∈ [y, a, b, r0, s0, r1, s1] → U64 z from fun z hz => by
    simp at hz
    rcases hz with rfl | rfl | rfl | rfl | rfl | rfl | rfl <;> exact U64.of_lt (by assumption) (by omega))
   obtain ⟨h_, hh⟩ : ∃ h_, chV Q [y, a, b, r0, s0, r1, s1] T = h_ := ⟨_, rfl⟩
   obtain ⟨h0, hQQ⟩ : 0 ≤ h_ ∧ h_ < Q := by rw [← hh]; exact chV_range (by omega) _ _
   have HCC := Lh hh
   clear hh
   by_cases hM : memsP P Q [y, a, b, r0, r1, s0, s1]
   case neg =>
    have HM := Lh hM
    have HZ := Lh (show false = v by rw [Bool.eq_iff_iff, HV.o]; exact ⟨fun h => (by cases h), fun h => absurd h.1 HM.o⟩)
    clear hM
    have F_g := Lh (show Boxed (((w.alloc (.cells #[υ P, υ Q, υ G] 24)).alloc (.cells #[υ a, υ b] 75)).alloc (.cells #[υ r0, υ r1, υ s0, υ s1, υ c0, υ c1, υ z0, υ z1] 31)) (w.heap.size) P Q G from ((Boxed.at _ P Q G _ (w.heap.size) (by simp)).alloc _).alloc _)
    have F_s := Lh (show Pair (((w.alloc (.cells #[υ P, υ Q, υ G] 24)).alloc (.cells #[υ a, υ b] 75)).alloc (.cells #[υ r0, υ r1, υ s0, υ s1, υ c0, υ c1, υ z0, υ z1] 31)) (w.heap.size + 1) a b from (Pair.at _ a b _ (w.heap.size + 1) (by simp)).alloc _)
    have F_p := Lh (show Arr .u64 (((w.alloc (.cells #[υ P, υ Q, υ G] 24)).alloc (.cells #[υ a, υ b] 75)).alloc (.cells #[υ r0, υ r1, υ s0, υ s1, υ c0, υ c1, υ z0, υ z1] 31)) (w.heap.size + 1 + 1) [r0, r1, s0, s1, c0, c1, z0, z1] from Arr.new .u64 _ [r0, r1, s0, s1, c0, c1, z0, z1] _ (w.heap.size + 1 + 1) (by simp))
    have HBW := Lh (show Below w.heap.size w (((w.alloc (.cells #[υ P, υ Q, υ G] 24)).alloc (.cells #[υ a, υ b] 75)).alloc (.cells #[υ r0, υ r1, υ s0, υ s1, υ c0, υ c1, υ z0, υ z1] 31)) from (((Below.refl _ _).alloc (by simp <;> omega) _).alloc (by simp <;> omega) _).alloc (by simp <;> omega) _)
    go_enter Tryz.func113, Tryz.ntmps113
    obtain ⟨Q0, Q1, Q2, Q3, Q4, Q5, Q6, Q7, Q8, Q9, Qa, Qb, Qc, Qd, Qe, Qf⟩ := Arr.k8 F_p.o
    obtain ⟨xa, xb, xc, -⟩ := id F_g.o
    obtain ⟨ya, yb, yc, yd, -⟩ := id F_s.o
    go_wp2_with fail
    clear xa xb xc ya yb yc yd Q0 Q1 Q2 Q3 Q4 Q5 Q6 Q7 Q8 Q9 Qa Qb Qc Qd Qe Qf
    refine (bitCheck0_any _ hP hQ hG HR.o).mono ?_
    rintro e w1 ⟨rfl, hb1⟩
    replace F_g := Lh (F_g.o.keep hb1)
    replace F_s := Lh (F_s.o.keep hb1)
    replace F_p := Lh (F_p.o.keep hb1)
    replace HBW := Kt HBW hb1
    clear hb1
    obtain ⟨Q0, Q1, Q2, Q3, Q4, Q5, Q6, Q7, Q8, Q9, Qa, Qb, Qc, Qd, Qe, Qf⟩ := Arr.k8 F_p.o
    obtain ⟨xa, xb, xc, -⟩ := id F_g.o
    obtain ⟨ya, yb, yc, yd, -⟩ := id F_s.o
    go_wp2_with fail
    clear xa xb xc ya yb yc yd Q0 Q1 Q2 Q3 Q4 Q5 Q6 Q7 Q8 Q9 Qa Qb Qc Qd Qe Qf
    refine (plong_any _ HLG.o).mono ?_
    rintro e w2 ⟨rfl, rfl⟩
    obtain ⟨Q0, Q1, Q2, Q3, Q4, Q5, Q6, Q7, Q8, Q9, Qa, Qb, Qc, Qd, Qe, Qf⟩ := Arr.k8 F_p.o
    obtain ⟨xa, xb, xc, -⟩ := id F_g.o
    obtain ⟨ya, yb, yc, yd, -⟩ := id F_s.o
    go_wp2_with fail
    clear xa xb xc ya yb yc yd Q0 Q1 Q2 Q3 Q4 Q5 Q6 Q7 Q8 Q9 Qa Qb Qc Qd Qe Qf
    replace F_g := Lh (F_g.o.alloc (.cells #[υ y, υ a, υ b, υ r0, υ r1, υ s0, υ s1] 22))
    replace F_s := Lh (F_s.o.alloc (.cells #[υ y, υ a, υ b, υ r0, υ r1, υ s0, υ s1] 22))
    replace F_p := Lh (F_p.o.alloc (.cells #[υ y, υ a, υ b, υ r0, υ r1, υ s0, υ s1] 22))
    have F_ms := Lh (ShL.laid w1 [y, a, b, r0, r1, s0, s1] _ 22 _ 7 7 rfl rfl rfl)
    replace HBW := Lh (HBW.o.alloc HBW.o.size (.cells #[υ y, υ a, υ b, υ r0, υ r1, υ s0, υ s1] 22))
    refine (pmembers_any (v := false) _ HH.o F_ms.o HRG.o (by simp) ⟨fun h => (by cases h), fun h => absurd h HM.o⟩).mono ?_
    rintro e w3 ⟨rfl, hb3⟩
    replace F_g := Lh (F_g.o.keep hb3)
    replace F_s := Lh (F_s.o.keep hb3)
    replace F_p := Lh (F_p.o.keep hb3)
    replace F_ms := Lh (F_ms.o.keep hb3)
    replace HBW := Kt HBW hb3
    clear hb3
    clear F_ms
    obtain ⟨Q0, Q1, Q2, Q3, Q4, Q5, Q6, Q7, Q8, Q9, Qa, Qb, Qc, Qd, Qe, Qf⟩ := Arr.k8 F_p.o
    obtain ⟨xa, xb, xc, -⟩ := id F_g.o
    obtain ⟨ya, yb, yc, yd, -⟩ := id F_s.o
    go_wp2_with fail
    go_ret2
    exact ⟨ret_bi HZ.o rfl, HBW.o⟩
   case pos =>
    have HM := Lh hM
    have HFI := Lh (show RetB (askS P Q G [h_, c0, c1, z0, z1] [y, a, b, r0, r1, s0, s1]) (bhP P Q G y a b r0 r1 s0 s1 c0 c1 z0 z1 h_) v 0 from .inl ⟨askS_ok HH.o (by simp; omega) (by simp; omega), HV.o.trans ⟨fun h => by rw [← HCC.o]; exact h.2, fun h => ⟨HM.o, by rw [HCC.o]; exact h⟩⟩, rfl⟩)
    clear hM
    have F_g := Lh (show Boxed (((w.alloc (.cells #[υ P, υ Q, υ G] 24)).alloc (.cells #[υ a, υ b] 75)).alloc (.cells #[υ r0, υ r1, υ s0, υ s1, υ c0, υ c1, υ z0, υ z1] 31)) (w.heap.size) P Q G from ((Boxed.at _ P Q G _ (w.heap.size) (by simp)).alloc _).alloc _)
    have F_s := Lh (show Pair (((w.alloc (.cells #[υ P, υ Q, υ G] 24)).alloc (.cells #[υ a, υ b] 75)).alloc (.cells #[υ r0, υ r1, υ s0, υ s1, υ c0, υ c1, υ z0, υ z1] 31)) (w.heap.size + 1) a b from (Pair.at _ a b _ (w.heap.size + 1) (by simp)).alloc _)
    have F_p := Lh (show Arr .u64 (((w.alloc (.cells #[υ P, υ Q, υ G] 24)).alloc (.cells #[υ a, υ b] 75)).alloc (.cells #[υ r0, υ r1, υ s0, υ s1, υ c0, υ c1, υ z0, υ z1] 31)) (w.heap.size + 1 + 1) [r0, r1, s0, s1, c0, c1, z0, z1] from Arr.new .u64 _ [r0, r1, s0, s1, c0, c1, z0, z1] _ (w.heap.size + 1 + 1) (by simp))
    have HBW := Lh (show Below w.heap.size w (((w.alloc (.cells #[υ P, υ Q, υ G] 24)).alloc (.cells #[υ a, υ b] 75)).alloc (.cells #[υ r0, υ r1, υ s0, υ s1, υ c0, υ c1, υ z0, υ z1] 31)) from (((Below.refl _ _).alloc (by simp <;> omega) _).alloc (by simp <;> omega) _).alloc (by simp <;> omega) _)
    go_enter Tryz.func113, Tryz.ntmps113
    obtain ⟨Q0, Q1, Q2, Q3, Q4, Q5, Q6, Q7, Q8, Q9, Qa, Qb, Qc, Qd, Qe, Qf⟩ := Arr.k8 F_p.o
    obtain ⟨xa, xb, xc, -⟩ := id F_g.o
    obtain ⟨ya, yb, yc, yd, -⟩ := id F_s.o
    go_wp2_with fail
    clear xa xb xc ya yb yc yd Q0 Q1 Q2 Q3 Q4 Q5 Q6 Q7 Q8 Q9 Qa Qb Qc Qd Qe Qf
    refine (bitCheck0_any _ hP hQ hG HR.o).mono ?_
    rintro e w1 ⟨rfl, hb1⟩
    replace F_g := Lh (F_g.o.keep hb1)
    replace F_s := Lh (F_s.o.keep hb1)
    replace F_p := Lh (F_p.o.keep hb1)
    replace HBW := Kt HBW hb1
    clear hb1
    obtain ⟨Q0, Q1, Q2, Q3, Q4, Q5, Q6, Q7, Q8, Q9, Qa, Qb, Qc, Qd, Qe, Qf⟩ := Arr.k8 F_p.o
    obtain ⟨xa, xb, xc, -⟩ := id F_g.o
    obtain ⟨ya, yb, yc, yd, -⟩ := id F_s.o
    go_wp2_with fail
    clear xa xb xc ya yb yc yd Q0 Q1 Q2 Q3 Q4 Q5 Q6 Q7 Q8 Q9 Qa Qb Qc Qd Qe Qf
    refine (plong_any _ HLG.o).mono ?_
    rintro e w2 ⟨rfl, rfl⟩
    obtain ⟨Q0, Q1, Q2, Q3, Q4, Q5, Q6, Q7, Q8, Q9, Qa, Qb, Qc, Qd, Qe, Qf⟩ := Arr.k8 F_p.o
    obtain ⟨xa, xb, xc, -⟩ := id F_g.o
    obtain ⟨ya, yb, yc, yd, -⟩ := id F_s.o
    go_wp2_with fail
    clear xa xb xc ya yb yc yd Q0 Q1 Q2 Q3 Q4 Q5 Q6 Q7 Q8 Q9 Qa Qb Qc Qd Qe Qf
    replace F_g := Lh (F_g.o.alloc (.cells #[υ y, υ a, υ b, υ r0, υ r1, υ s0, υ s1] 22))
    replace F_s := Lh (F_s.o.alloc (.cells #[υ y, υ a, υ b, υ r0, υ r1, υ s0, υ s1] 22))
    replace F_p := Lh (F_p.o.alloc (.cells #[υ y, υ a, υ b, υ r0, υ r1, υ s0, υ s1] 22))
    have F_ms := Lh (ShL.laid w1 [y, a, b, r0, r1, s0, s1] _ 22 _ 7 7 rfl rfl rfl)
    replace HBW := Lh (HBW.o.alloc HBW.o.size (.cells #[υ y, υ a, υ b, υ r0, υ r1, υ s0, υ s1] 22))
    refine (pmembers_any (v := true) _ HH.o F_ms.o HRG.o (by simp) ⟨fun _ => HM.o, fun _ => rfl⟩).mono ?_
    rintro e w3 ⟨rfl, hb3⟩
    replace F_g := Lh (F_g.o.keep hb3)
    replace F_s := Lh (F_s.o.keep hb3)
    replace F_p := Lh (F_p.o.keep hb3)
    replace F_ms := Lh (F_ms.o.keep hb3)
    replace HBW := Kt HBW hb3
    clear hb3
    clear F_ms
    obtain ⟨Q0, Q1, Q2, Q3, Q4, Q5, Q6, Q7, Q8, Q9, Qa, Qb, Qc, Qd, Qe, Qf⟩ := Arr.k8 F_p.o
    obtain ⟨xa, xb, xc, -⟩ := id F_g.o
    obtain ⟨ya, yb, yc, yd, -⟩ := id F_s.o
    go_wp2_with fail
    clear xa xb xc ya yb yc yd Q0 Q1 Q2 Q3 Q4 Q5 Q6 Q7 Q8 Q9 Qa Qb Qc Qd Qe Qf
    replace F_g := Lh F_g.o.drew
    replace F_s := Lh F_s.o.drew
    replace F_p := Lh F_p.o.drew
    replace HBW := Lh HBW.o.drew
    have hS := And.intro F_g.o.s (And.intro F_s.o.s F_p.o.s8)
    refine wp_region_stage 10 (fun w' => SBox w' w.heap.size P Q G ∧ SPair w' (w.heap.size + 1) a b ∧ S8 w' (w.heap.size + 1 + 1) r0 r1 s0 s1 c0 c1 z0 z1) (by kernel_rfl) ?_
    refine tk8 0 (some 48) (.load 24 (.tmp 5)) 24 [10] ?_
    simp only [sY]
    refine tkQ 1 (some 49) (.move (.tmp 1)) 22 ?_
    simp only [sY]
    refine tk8 2 (some 50) (.load 75 (.tmp 7)) 75 [10] ?_
    simp only [sY]
    refine tk8 3 (some 51) (.load 31 (.tmp 8)) 31 [10] ?_
    simp only [sY]
    refine tk8 4 (some 52) (.load 24 (.tmp 5)) 24 [9, 10] ?_
    simp only [sY]
    refine tkQ 5 (some 53) (.move (.tmp 1)) 22 ?_
    simp only [sY]
    refine tk8 6 (some 54) (.load 75 (.tmp 7)) 75 [9, 10] ?_
    simp only [sY]
    refine tk8 7 (some 55) (.load 31 (.tmp 8)) 31 [9, 10] ?_
    simp only [sY]
    refine tkQ 8 (some 56) (.move (.tmp 4)) 80 ?_
    simp only [sY]
    refine onl (i := 9) (some 57) (.call { callee := .value (.func 71), args := #[.tmp 52, .tmp 53, .tmp 54, .tmp 55, .tmp 56], argTypes := #[24, 22, 75, 31, 80] }) 22 (fun K hK => ?_)
    unfold bareOp
    go_wp2_with (go_at_call 71; refine (ptotal_any _ (HT.o.keep HBW.o) HH.o HUS.o hn8 HCC.o).mono ?_; rintro e w4 ⟨rfl, hb4⟩)
    replace F_g := Lh (F_g.o.keep hb4)
    replace F_s := Lh (F_s.o.keep hb4)
    replace F_p := Lh (F_p.o.keep hb4)
    replace HBW := Kt HBW hb4
    replace hS := And.intro F_g.o.s (And.intro F_s.o.s F_p.o.s8)
    clear hb4
    refine hK.o _ _ (fun _ => hS) ?_
    clear hK K
    try simp only [sY]
    refine onl (i := 10) (some 58) (.call { callee := .value (.func 133), args := #[.tmp 48, .tmp 49, .tmp 50, .tmp 51, .tmp 57], argTypes := #[24, 22, 75, 31, 22] }) 43 (fun K hK => ?_)
    unfold bareOp
    go_wp2_with (go_at_call 133; refine (bitHolds_any (v := v) (e' := 0) _ hP hQ hG y0 a0 b_0 h0 r0_0 r1_0 s0_0 s1_0 c0_0 c1_0 z0_0 z1_0 rfl rfl rfl HFI.o).mono ?_; rintro e w5 ⟨rfl, hb5⟩)
    replace F_g := Lh (F_g.o.keep hb5)
    replace F_s := Lh (F_s.o.keep hb5)
    replace F_p := Lh (F_p.o.keep hb5)
    replace HBW := Kt HBW hb5
    replace hS := And.intro F_g.o.s (And.intro F_s.o.s F_p.o.s8)
    clear hb5
    refine hK.o _ _ lt8 ?_
    clear hK K
    try simp only [sY]
    refine tkP (i := 11) (some 59) (.extract (.tmp 58) 0) 4 lt8 ?_
    simp only [sY]
    refine tkP (i := 12) (some 60) (.extract (.tmp 58) 1) 38 lt8 ?_
    simp only [sY]
    refine tkP (i := 13) (some 10) (.assign (.tmp 59)) 4 lt8 ?_
    simp only [sY]
    refine tkP (i := 14) (some 11) (.assign (.tmp 60)) 38 lt8 ?_
    simp only [sY]
    refine wpAnyB_done (by kernel_rfl) ?_ _
    go_wp2_with fail
    go_ret2
    exact ⟨rfl, HBW.o⟩
 · by_cases ha : askS P Q G [c0, c1, z0, z1] [y, a, b, r0, r1, s0, s1] = 0
   · have hn8 := lgS_long ha h
     obtain rfl : e' = 4 := by rw [hc]; exact lgS_four ha hn8
     have HR := Lh ha
     have HLG := Lh (show lgS 0 n = 4 from lgS_four rfl hn8)
     clear h hc ha
     have F_g := Lh (show Boxed (((w.alloc (.cells #[υ P, υ Q, υ G] 24)).alloc (.cells #[υ a, υ b] 75)).alloc (.cells #[υ r0, υ r1, υ s0, υ s1, υ c0, υ c1, υ z0, υ z1] 31)) (w.heap.size) P Q G from ((Boxed.at _ P Q G _ (w.heap.size) (by simp)).alloc _).alloc _)
     have F_s := Lh (show Pair (((w.alloc (.cells #[υ P, υ Q, υ G] 24)).alloc (.cells #[υ a, υ b] 75)).alloc (.cells #[υ r0, υ r1, υ s0, υ s1, υ c0, υ c1, υ z0, υ z1] 31)) (w.heap.size + 1) a b from (Pair.at _ a b _ (w.heap.size + 1) (by simp)).alloc _)
     have F_p := Lh (show Arr .u64 (((w.alloc (.cells #[υ P, υ Q, υ G] 24)).alloc (.cells #[υ a, υ b] 75)).alloc (.cells #[υ r0, υ r1, υ s0, υ s1, υ c0, υ c1, υ z0, υ z1] 31)) (w.heap.size + 1 + 1) [r0, r1, s0, s1, c0, c1, z0, z1] from Arr.new .u64 _ [r0, r1, s0, s1, c0, c1, z0, z1] _ (w.heap.size + 1 + 1) (by simp))
     have HBW := Lh (show Below w.heap.size w (((w.alloc (.cells #[υ P, υ Q, υ G] 24)).alloc (.cells #[υ a, υ b] 75)).alloc (.cells #[υ r0, υ r1, υ s0, υ s1, υ c0, υ c1, υ z0, υ z1] 31)) from (((Below.refl _ _).alloc (by simp <;> omega) _).alloc (by simp <;> omega) _).alloc (by simp <;> omega) _)
     go_enter Tryz.func113, Tryz.ntmps113
     obtain ⟨Q0, Q1, Q2, Q3, Q4, Q5, Q6, Q7, Q8, Q9, Qa, Qb, Qc, Qd, Qe, Qf⟩ := Arr.k8 F_p.o
     obtain ⟨xa, xb, xc, -⟩ := id F_g.o
     obtain ⟨ya, yb, yc, yd, -⟩ := id F_s.o
     go_wp2_with fail
     clear xa xb xc ya yb yc yd Q0 Q1 Q2 Q3 Q4 Q5 Q6 Q7 Q8 Q9 Qa Qb Qc Qd Qe Qf
     refine (bitCheck0_any _ hP hQ hG HR.o).mono ?_
     rintro e w1 ⟨rfl, hb1⟩
     replace F_g := Lh (F_g.o.keep hb1)
     replace F_s := Lh (F_s.o.keep hb1)
     replace F_p := Lh (F_p.o.keep hb1)
     replace HBW := Kt HBW hb1
     clear hb1
     obtain ⟨Q0, Q1, Q2, Q3, Q4, Q5, Q6, Q7, Q8, Q9, Qa, Qb, Qc, Qd, Qe, Qf⟩ := Arr.k8 F_p.o
     obtain ⟨xa, xb, xc, -⟩ := id F_g.o
     obtain ⟨ya, yb, yc, yd, -⟩ := id F_s.o
     go_wp2_with fail
     clear xa xb xc ya yb yc yd Q0 Q1 Q2 Q3 Q4 Q5 Q6 Q7 Q8 Q9 Qa Qb Qc Qd Qe Qf
     refine (plong_any _ HLG.o).mono ?_
     rintro e w2 ⟨rfl, rfl⟩
     obtain ⟨Q0, Q1, Q2, Q3, Q4, Q5, Q6, Q7, Q8, Q9, Qa, Qb, Qc, Qd, Qe, Qf⟩ := Arr.k8 F_p.o
     obtain ⟨xa, xb, xc, -⟩ := id F_g.o
     obtain ⟨ya, yb, yc, yd, -⟩ := id F_s.o
     go_wp2_with fail
     go_ret2
     exact ⟨rfl, HBW.o⟩
   · have hc' : e' = askS P Q G [c0, c1, z0, z1] [y, a, b, r0, r1, s0, s1] := by rw [hc]; exact lgS_ne ha
     have hnc : e' ≠ 0 := by rw [hc']; exact ha
     have hn1 : (e' != 0) = true := by simpa using hnc
     have HR := Lh hc'.symm
     have HLG := Lh (show lgS e' n = e' from lgS_ne hnc)
     clear h hc ha hc' hnc
     have F_g := Lh (show Boxed (((w.alloc (.cells #[υ P, υ Q, υ G] 24)).alloc (.cells #[υ a, υ b] 75)).alloc (.cells #[υ r0, υ r1, υ s0, υ s1, υ c0, υ c1, υ z0, υ z1] 31)) (w.heap.size) P Q G from ((Boxed.at _ P Q G _ (w.heap.size) (by simp)).alloc _).alloc _)
     have F_s := Lh (show Pair (((w.alloc (.cells #[υ P, υ Q, υ G] 24)).alloc (.cells #[υ a, υ b] 75)).alloc (.cells #[υ r0, υ r1, υ s0, υ s1, υ c0, υ c1, υ z0, υ z1] 31)) (w.heap.size + 1) a b from (Pair.at _ a b _ (w.heap.size + 1) (by simp)).alloc _)
     have F_p := Lh (show Arr .u64 (((w.alloc (.cells #[υ P, υ Q, υ G] 24)).alloc (.cells #[υ a, υ b] 75)).alloc (.cells #[υ r0, υ r1, υ s0, υ s1, υ c0, υ c1, υ z0, υ z1] 31)) (w.heap.size + 1 + 1) [r0, r1, s0, s1, c0, c1, z0, z1] from Arr.new .u64 _ [r0, r1, s0, s1, c0, c1, z0, z1] _ (w.heap.size + 1 + 1) (by simp))
     have HBW := Lh (show Below w.heap.size w (((w.alloc (.cells #[υ P, υ Q, υ G] 24)).alloc (.cells #[υ a, υ b] 75)).alloc (.cells #[υ r0, υ r1, υ s0, υ s1, υ c0, υ c1, υ z0, υ z1] 31)) from (((Below.refl _ _).alloc (by simp <;> omega) _).alloc (by simp <;> omega) _).alloc (by simp <;> omega) _)
     go_enter Tryz.func113, Tryz.ntmps113
     obtain ⟨Q0, Q1, Q2, Q3, Q4, Q5, Q6, Q7, Q8, Q9, Qa, Qb, Qc, Qd, Qe, Qf⟩ := Arr.k8 F_p.o
     obtain ⟨xa, xb, xc, -⟩ := id F_g.o
     obtain ⟨ya, yb, yc, yd, -⟩ := id F_s.o
     go_wp2_with fail
     clear xa xb xc ya yb yc yd Q0 Q1 Q2 Q3 Q4 Q5 Q6 Q7 Q8 Q9 Qa Qb Qc Qd Qe Qf
     refine (bitCheck0_any _ hP hQ hG HR.o).mono ?_
     rintro e w1 ⟨rfl, hb1⟩
     replace F_g := Lh (F_g.o.keep hb1)
     replace F_s := Lh (F_s.o.keep hb1)
     replace F_p := Lh (F_p.o.keep hb1)
     replace HBW := Kt HBW hb1
     clear hb1
     obtain ⟨Q0, Q1, Q2, Q3, Q4, Q5, Q6, Q7, Q8, Q9, Qa, Qb, Qc, Qd, Qe, Qf⟩ := Arr.k8 F_p.o
     obtain ⟨xa, xb, xc, -⟩ := id F_g.o
     obtain ⟨ya, yb, yc, yd, -⟩ := id F_s.o
     go_wp2_with fail
     go_ret2
     exact ⟨rfl, HBW.o⟩
open Go Go.RowKit Num Sha
theorem Gro.puts {r : Nat} {a : World} (k : Nat) (vs : List Value) (p : Nat) (hp : p = r ∨ a.heap.size ≤ p) : ∀ (b : World) (o : Nat), Gro r a b → Gro r a (b.setCells p o vs) := by
 induction vs with
 | nil => intro b o h; exact h
 | cons v vs ih => intro b o h; exact ih _ _ (h.set ⟨p, o, none⟩ hp v)
theorem Cl.range {w : World} {B : Nat} {l : List Value} (h : Cl w B l) : w.rangeAt B 0 l := fun j v hv => by rw [Nat.zero_add]; exact h.c j v hv
theorem Cl.there {w : World} {B : Nat} {l : List Value} (h : Cl w B l) (k n : Nat) (hk : k + n ≤ l.length) : w.there B k n := fun j hj =>
 ⟨by rw [h.c (k + j) _ (List.getElem?_eq_getElem (by omega))]; rfl, h.f _⟩
theorem Cl.puts {w : World} {B : Nat} {l m : List Value} (h : Cl w B l) (k : Nat) (vs : List Value) (hk : k + vs.length ≤ l.length) (hm : l.take k ++ vs ++ l.drop (k + vs.length) = m) : Cl (w.setCells B k vs) B m := by
 subst hm
 have ht := h.there k vs.length hk
 refine ⟨fun i u hu => ?_, fun i => by rw [World.frozen?_setCells]; exact h.f i, ?_⟩
 · by_cases h1 : i < k
   · rw [List.append_assoc, List.getElem?_append_left (by rw [List.length_take]; omega), List.getElem?_take_of_lt h1] at hu
     rw [World.cell?_setCells_out B vs k w ⟨B, i, none⟩ (fun _ _ => .inl h1)]
     exact h.c i u hu
   · by_cases h2 : i < k + vs.length
     · rw [List.getElem?_append_left (by rw [List.length_append, List.length_take]; omega), List.getElem?_append_right (by rw [List.length_take]; omega), List.length_take, show min k l.length = k by omega] at hu
       obtain ⟨j, rfl⟩ : ∃ j, i = k + j := ⟨i - k, by omega⟩
       rw [show k + j - k = j by omega] at hu
       exact World.rangeAt_setCells_same w B k vs ht j u hu
     · rw [List.getElem?_append_right (by rw [List.length_append, List.length_take]; omega), List.length_append, List.length_take, show min k l.length = k by omega, List.getElem?_drop, show k + vs.length + (i - (k + vs.length)) = i by omega] at hu
       rw [World.cell?_setCells_out B vs k w ⟨B, i, none⟩ (fun _ _ => .inr (by show k + vs.length ≤ i; omega))]
       exact h.c i u hu
 · exact Nat.lt_of_lt_of_le h.lt ((Gro.puts (r := B) k vs B (.inl rfl) w k (Gro.refl _ _)).size)
theorem wpL_storeCl {P : Program} {w : World} {o : Oper} {ops : Array Oper} {rest : List Oper} {a : Act} {Q : Exit → Act → World → Prop} (hgd : o.guard = none) (t : TypeId) (p v : Operand) (b k : Nat) (l vs m : List Value) (ho : o.op = .store t p v) (hd : o.dst = none)
 (hp : a.eval p = .pointer (some ⟨b, k, none⟩)) (hv : a.eval v = .agg vs.toArray) (hi : (P.info? t).map (·.size) = some vs.length) (h1 : ∀ u, u ∈ vs → u.oneCell' = true) (hC : Cl w b l) (hk : k + vs.length ≤ l.length) (hm : l.take k ++ vs ++ l.drop (k + vs.length) = m)
 (h : ∀ w', Cl w' b m → Gro b w w' → w'.heap.size = w.heap.size → wpList P ops Q rest a w') : wpList P ops Q (o :: rest) a w := by
 refine wpList_store_mid hgd t p v ho b k vs.toArray hp hv (by simpa using hC.there k vs.length hk) (by simpa using hi) (all_oneCell_toArray h1) ?_
 have := h _ (hC.puts k vs hk hm) (Gro.puts k vs b (.inl rfl) w k (Gro.refl _ _)) (size_setCells b vs k w)
 rw [hd]
 exact this
theorem wpL_loadCl {P : Program} {w : World} {o : Oper} {ops : Array Oper} {rest : List Oper} {a : Act} {Q : Exit → Act → World → Prop} (hgd : o.guard = none) (t : TypeId) (p : Operand) (b : Nat) (l : List Value) (ho : o.op = .load t p)
 (hp : a.eval p = .pointer (some ⟨b, 0, none⟩)) (d : TypeDesc) (hu : P.underlying t = some d) (hd : d.isRow = true) (hi : (P.info? t).map (·.size) = some l.length) (hC : Cl w b l)
 (h : wpList P ops Q rest (a.put o.dst (.agg l.toArray)) w) : wpList P ops Q (o :: rest) a w :=
 wpList_load_mid hgd t p ho b 0 hp l d hC.range hu hd hi h
theorem ShS.of_owned2 {w : World} {base : Nat} {e : TypeId} {v : Value} {n : Nat} {ps : List (Int × Int)} (h : w.ownsRow base e 2 v n (flatS ps)) : ∃ a c, v = .slice a n c ∧ ShS w a n ps ∧ (a = none → c = 0) := by
 obtain ⟨a, c, rfl, h1⟩ := ShS.of_owned h
 refine ⟨a, c, rfl, h1, fun e => ?_⟩
 subst e
 rcases h.2 with ⟨h2, _⟩ | ⟨g, cap, cur, h2, _⟩
 · injection h2
 · injection h2 with h3; cases h3
theorem ShB.of_owned2 {w : World} {base : Nat} {e : TypeId} {v : Value} {n : Nat} {ps : List Bt} (h : w.ownsRow base e 8 v n (flatB ps)) : ∃ a c, v = .slice a n c ∧ ShB w a n ps ∧ (a = none → c = 0) := by
 obtain ⟨a, c, rfl, h1⟩ := ShB.of_owned h
 refine ⟨a, c, rfl, h1, fun e => ?_⟩
 subst e
 rcases h.2 with ⟨h2, _⟩ | ⟨g, cap, cur, h2, _⟩
 · injection h2
 · injection h2 with h3; cases h3
theorem Rd.start {w0 W : World} {B n c : Nat} {a : Option Addr} {xs : List Int} (hx : RBox W B (.slice a n c)) (hS : ShI .u8 w0 a n xs) (h : n ≤ c) : Rd w0 W B xs := by
 obtain rfl := hS.len
 exact ⟨a, c, hx, hS, h⟩
open Go Go.RowKit Num Sha
open Go Go.RowKit Num Sha
end Go.Proofs.YtlbldpkgnonbpaaGreatDoor
