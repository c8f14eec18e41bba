/- BoothNames: the statement: for every input the law returns true, and the arguments read as before. -/
import Derived.Test.YtlbldpkgnonbpaaDoorNz4
set_option linter.unusedSimpArgs false
set_option linter.unusedVariables false
set_option maxRecDepth 100000
namespace Go.Proofs.YtlbldpkgnonbpaaDoor.lawNames
open Go Sha Go.ChangeShapes Go.WideShapes Go.ChangeAt Go.RowKit Num
theorem z67 (i : Nat) : zero67.getD i 0 = 0 := by
 unfold zero67
 rw [List.getD_eq_getElem?_getD, List.getElem?_replicate]
 split <;> rfl
theorem run_mk_rev (ρ : Operand → Value) (w : World) (dst : Option Tmp) (ty : TypeId) (x z : Operand) (hx : ρ x = .int .i64 1) (hz : ρ z = .int .i64 1) : (execOp ρ (bareOp dst (.makeSlice 51 x z) ty)).run Tryd.prog w = .ok (.value (.slice (some ⟨w.heap.size, 0, none⟩) 1 1)) (w.alloc (.cells #[.slice none 0 0, .slice none 0 0] 57)) := by
 have h : (Instr.makeSlice 51 (.int .i64 1) (.int .i64 1)).run Tryd.prog w = .ok (.slice (some ⟨w.heap.size, 0, none⟩) 1 1) (w.alloc (.cells #[.slice none 0 0, .slice none 0 0] 57)) := by kernel_rfl
 unfold bareOp
 go_simp
theorem run_bd_odd (ρ : Operand → Value) (w : World) (dst : Option Tmp) (ty : TypeId) (x : Operand) {b : Nat} (h : ρ x = .slice (some ⟨b, 0, none⟩) 1 1) : (execOp ρ (bareOp dst (.build 53 #[(2, x)]) ty)).run Tryd.prog w = .ok (.value (.agg #[.slice none 0 0, .slice none 0 0, .slice (some ⟨b, 0, none⟩) 1 1])) w := by
 unfold bareOp
 go_simp
theorem run_lit_int0 (ρ : Operand → Value) (w : World) (dst : Option Tmp) (ty : TypeId) (x : Operand) (hx : ρ x = .int .i64 0) : (execOp ρ (bareOp dst (.buildSlice 54 1 #[(0, x)]) ty)).run Tryd.prog w = .ok (.value (.slice (some ⟨w.heap.size, 0, none⟩) 1 1)) (w.alloc (.cells #[.int .i64 0] 3)) := by
 unfold bareOp
 go_simp
theorem run_bd_rev (ρ : Operand → Value) (w : World) (dst : Option Tmp) (ty : TypeId) (x z : Operand) {b n c : Nat} {a : Option Addr} (h : ρ x = .slice (some ⟨b, 0, none⟩) 1 1) (h2 : ρ z = .slice a n c) : (execOp ρ (bareOp dst (.build 57 #[(0, x), (1, z)]) ty)).run Tryd.prog w = .ok (.value (.agg #[.slice (some ⟨b, 0, none⟩) 1 1, .slice a n c])) w := by
 unfold bareOp
 go_simp
theorem oddB_in {w : World} {b : Nat} (h : Cl w b [.slice none 0 0, .slice none 0 0]) : BoIn w (oddB b) := by
 refine ⟨.inl ⟨rfl, rfl⟩, fun _ => rfl, .inl ⟨rfl, rfl⟩, fun _ => rfl, .inr ⟨b, 0, rfl, rfl, ⟨h.lt, fun i hi k u hu => ?_, fun V hV => ?_⟩⟩, (by intro h; cases h)⟩
 · obtain rfl : i = 0 := by simp [oddB] at hi; exact hi
   have := h.c k u (by simpa [oddB, Rv.vs] using hu)
   simpa using this
 · simp [oddB] at hV
   subst hV
   exact ⟨.inl ⟨rfl, rfl⟩, (by intro x hx; cases hx), fun _ => rfl, .inl ⟨rfl, rfl⟩, (by intro x hx; cases hx), fun _ => rfl⟩
set_option maxHeartbeats 16000000 in
theorem walk (w : World) (hT : Tabs w) :
    Calls Tryd.prog 7 #[] w fun e w' => e = .returned (.bool true) ∧ Below w.heap.size w w' := by
  have HT := Lh hT
  have HBW := Lh (Below.refl w.heap.size w)
  clear hT
  go_enter Tryd.func7, Tryd.ntmps7
  go_wp2_with fail
  refine Calls.via (w0 := w) (by repeat (first | exact Below.refl _ _ | refine BW.alloc ?_ _ | refine BW.drew ?_)) (fun hb => bytes_zero _) ?_
  rintro e x1 ⟨ax, cx, rfl, hx⟩ hb
  have HX := Lh hx
  clear hx
  replace HBW := Lh (HBW.o.trans (hb.mono HBW.o.size))
  clear hb
  go_wp2_with fail
  refine Calls.via (w0 := x1) (by repeat (first | exact Below.refl _ _ | refine BW.alloc ?_ _ | refine BW.drew ?_)) (fun hb => small36_any _) ?_
  rintro e x2 rfl hb
  replace HX := Lh (HX.o.keep hb)
  replace HBW := Lh (HBW.o.trans (hb.mono HBW.o.size))
  clear hb
  go_wp2_with fail
  refine Calls.via (w0 := x2) (by repeat (first | exact Below.refl _ _ | refine BW.alloc ?_ _ | refine BW.drew ?_)) (fun hb => seal_err (er := 2) (n := 2) (ms := [1, 0]) _ (HT.o.below (HBW.o.trans (hb.mono HBW.o.size))) (by decide) (ShI.lit2 .i64 x2 1 0 3 _ rfl) (by intro h; cases h) (by intro x hx; simp at hx; omega) (by decide) sealE_a (by decide)) ?_
  rintro e x3 rfl hb
  replace HX := Lh (HX.o.keep hb)
  replace HBW := Lh (HBW.o.trans (hb.mono HBW.o.size))
  clear hb
  go_wp2_with fail
  refine Calls.via (w0 := x3) (by repeat (first | exact Below.refl _ _ | refine BW.alloc ?_ _ | refine BW.drew ?_)) (fun hb => small36_any _) ?_
  rintro e x4 rfl hb
  replace HX := Lh (HX.o.keep hb)
  replace HBW := Lh (HBW.o.trans (hb.mono HBW.o.size))
  clear hb
  go_wp2_with fail
  refine Calls.via (w0 := x4) (by repeat (first | exact Below.refl _ _ | refine BW.alloc ?_ _ | refine BW.drew ?_)) (fun hb => seal_err (er := 2) (n := 2) (ms := [0, 1]) _ (HT.o.below (HBW.o.trans (hb.mono HBW.o.size))) (by decide) (ShI.lit2 .i64 x4 0 1 3 _ rfl) (by intro h; cases h) (by intro x hx; simp at hx; omega) (by decide) sealE_b (by decide)) ?_
  rintro e x5 rfl hb
  replace HX := Lh (HX.o.keep hb)
  replace HBW := Lh (HBW.o.trans (hb.mono HBW.o.size))
  clear hb
  go_wp2_with fail
  refine Calls.via (w0 := x5) (by repeat (first | exact Below.refl _ _ | refine BW.alloc ?_ _ | refine BW.drew ?_)) (fun hb => small36_any _) ?_
  rintro e x6 rfl hb
  replace HX := Lh (HX.o.keep hb)
  replace HBW := Lh (HBW.o.trans (hb.mono HBW.o.size))
  clear hb
  go_wp2_with fail
  refine Calls.via (w0 := x6) (by repeat (first | exact Below.refl _ _ | refine BW.alloc ?_ _ | refine BW.drew ?_)) (fun hb => seal_err (er := 2) (n := 11) (ms := []) _ (HT.o.below (HBW.o.trans (hb.mono HBW.o.size))) (by decide) (.inl ⟨rfl, rfl⟩) (fun _ => rfl) (by intro x hx; cases hx) (by decide) sealE_c (by decide)) ?_
  rintro e x7 rfl hb
  replace HX := Lh (HX.o.keep hb)
  replace HBW := Lh (HBW.o.trans (hb.mono HBW.o.size))
  clear hb
  go_wp2_with fail
  refine Calls.via (w0 := x7) (by repeat (first | exact Below.refl _ _ | refine BW.alloc ?_ _ | refine BW.drew ?_)) (fun hb => small36_any _) ?_
  rintro e x8 rfl hb
  replace HX := Lh (HX.o.keep hb)
  replace HBW := Lh (HBW.o.trans (hb.mono HBW.o.size))
  clear hb
  go_wp2_with fail
  refine Calls.via (w0 := x8) (by repeat (first | exact Below.refl _ _ | refine BW.alloc ?_ _ | refine BW.drew ?_)) (fun hb => seal_err (er := 2) (n := 2) (ms := []) _ (HT.o.below (HBW.o.trans (hb.mono HBW.o.size))) (by decide) (.inl ⟨rfl, rfl⟩) (fun _ => rfl) (by intro x hx; cases hx) (by decide) sealE_d (by decide)) ?_
  rintro e x9 rfl hb
  replace HX := Lh (HX.o.keep hb)
  replace HBW := Lh (HBW.o.trans (hb.mono HBW.o.size))
  clear hb
  go_wp2_with fail
  refine Calls.via (w0 := x9) (by repeat (first | exact Below.refl _ _ | refine BW.alloc ?_ _ | refine BW.drew ?_)) (fun hb => read_err (er := 11) (xs := [0, 0, 2]) (ShI.lit3 .u8 _ _ _ _ 5 _ (by simp)) (by intro x hx; simp at hx; omega) (by decide) (by decide) (by decide +kernel)) ?_
  rintro e x10 ⟨V1, rfl⟩ hb
  replace HX := Lh (HX.o.keep hb)
  replace HBW := Lh (HBW.o.trans (hb.mono HBW.o.size))
  clear hb
  unfold Vt.v
  go_wp2_with fail
  refine Calls.via (w0 := x10) (by repeat (first | exact Below.refl _ _ | refine BW.alloc ?_ _ | refine BW.drew ?_)) (fun hb => read_err (er := 10) (xs := [0, 0, 1]) (ShI.lit3 .u8 _ _ _ _ 5 _ (by simp)) (by intro x hx; simp at hx; omega) (by decide) (by decide) (by decide +kernel)) ?_
  rintro e x11 ⟨V2, rfl⟩ hb
  replace HX := Lh (HX.o.keep hb)
  replace HBW := Lh (HBW.o.trans (hb.mono HBW.o.size))
  clear hb
  unfold Vt.v
  go_wp2_with fail
  refine Calls.via (w0 := x11) (by repeat (first | exact Below.refl _ _ | refine BW.alloc ?_ _ | refine BW.drew ?_)) (fun hb => read_err (er := 11) (xs := [11, 0, 0]) (ShI.lit3 .u8 _ _ _ _ 5 _ (by simp)) (by intro x hx; simp at hx; omega) (by decide) (by decide) (by decide +kernel)) ?_
  rintro e x12 ⟨V3, rfl⟩ hb
  replace HX := Lh (HX.o.keep hb)
  replace HBW := Lh (HBW.o.trans (hb.mono HBW.o.size))
  clear hb
  unfold Vt.v
  go_wp2_with fail
  refine Calls.via (w0 := x12) (by repeat (first | exact Below.refl _ _ | refine BW.alloc ?_ _ | refine BW.drew ?_)) (fun hb => read_err (er := 10) (xs := []) (.inl ⟨rfl, rfl⟩) (by intro x hx; cases hx) (by decide) (by decide) (by decide +kernel)) ?_
  rintro e x13 ⟨V4, rfl⟩ hb
  replace HX := Lh (HX.o.keep hb)
  replace HBW := Lh (HBW.o.trans (hb.mono HBW.o.size))
  clear hb
  unfold Vt.v
  have hmk11 : ∀ w : World, (Instr.makeSlice 22 (.int .i64 11) (.int .i64 11)).run Tryd.prog w = .ok (.slice (some ⟨w.heap.size, 0, none⟩) 11 11) (w.alloc (.cells zeros22 78)) := fun w => by kernel_rfl
  go_wp2_with fail
  refine Calls.via (w0 := x13) (by repeat (first | exact Below.refl _ _ | refine BW.alloc ?_ _ | refine BW.drew ?_)) (fun hb => code_many (V := elevenV (x13.heap.size + 1)) (HT.o.below (HBW.o.trans (hb.mono HBW.o.size))) (eleven_in _ 78 _ (by simp)) (by simp [elevenV])) ?_
  rintro e x14 rfl hb
  replace HX := Lh (HX.o.keep hb)
  replace HBW := Lh (HBW.o.trans (hb.mono HBW.o.size))
  clear hb
  obtain ⟨B4, hB4⟩ : ∃ B, x14.heap.size = B := ⟨_, rfl⟩
  obtain ⟨wo, rfl⟩ : ∃ wo, wo = x14 := ⟨_, rfl⟩
  go_wp2_with (first
    | (refine wpL_allocArr rfl 37 .u8 32 rfl (by kernel_rfl) ?_; intro wa h1; have F_a := Lh h1.arr; have HB1' := Lh (h1.below _ (Nat.le_refl _)); clear h1; simp only [Act.put, sZ]; rw [hB4] at F_a HB1' ⊢)
    | (refine wpL_storeArr rfl 37 .u8 _ _ B4 zero32 _ rfl rfl rfl rfl (by kernel_rfl) F_a.o (by rfl) ?_; intro w5 h9; have HB3 := Lh (show Below wo.heap.size wo w5 by rw [hB4]; exact HB1'.o.trans (h9.below B4 (Nat.le_refl _))); clear h9 F_a HB1' hB4; replace HX := Lh (HX.o.keep HB3.o); replace HBW := Lh (HBW.o.trans (HB3.o.mono HBW.o.size)); clear HB3))
  refine Calls.via (w0 := w5) (by repeat (first | exact Below.refl _ _ | refine BW.alloc ?_ _ | refine BW.drew ?_)) (fun hb => small36_any _) ?_
  rintro e x15 rfl hb
  replace HX := Lh (HX.o.keep hb)
  replace HBW := Lh (HBW.o.trans (hb.mono HBW.o.size))
  clear hb
  go_wp2_with fail
  refine Calls.via (w0 := x15) (by repeat (first | exact Below.refl _ _ | refine BW.alloc ?_ _ | refine BW.drew ?_)) (fun hb => matches_bad (V := zeroV) (R := ⟨none, 0, 0, [], none, 0, 0, []⟩) _ (HT.o.below (HBW.o.trans (hb.mono HBW.o.size))) (zeroV_in _) ⟨.inl ⟨rfl, rfl⟩, (by intro x hx; cases hx), fun _ => rfl, .inl ⟨rfl, rfl⟩, (by intro x hx; cases hx), fun _ => rfl⟩ (by decide) (fun h => by have := h.1; cases this)) ?_
  rintro e x16 rfl hb
  replace HX := Lh (HX.o.keep hb)
  replace HBW := Lh (HBW.o.trans (hb.mono HBW.o.size))
  clear hb
  go_wp2_with fail
  refine Calls.via (w0 := x16) (by repeat (first | exact Below.refl _ _ | refine BW.alloc ?_ _ | refine BW.drew ?_)) (fun hb => small36_any _) ?_
  rintro e x17 rfl hb
  replace HX := Lh (HX.o.keep hb)
  replace HBW := Lh (HBW.o.trans (hb.mono HBW.o.size))
  clear hb
  go_wp2_with fail
  refine Calls.via (w0 := x17) (by repeat (first | exact Below.refl _ _ | refine BW.alloc ?_ _ | refine BW.drew ?_)) (fun hb => matches_no (V := zeroV) (R := ⟨none, 0, 0, [], some ⟨x17.heap.size, 0, none⟩, 2, 2, [1, 2]⟩) _ (HT.o.below (HBW.o.trans (hb.mono HBW.o.size))) (zeroV_in _) ⟨.inl ⟨rfl, rfl⟩, (by intro x hx; cases hx), fun _ => rfl, ShI.lit2 .u64 x17 1 2 24 _ rfl, (by intro x hx; simp at hx; rcases hx with rfl | rfl <;> simp [U64]), (by intro h; cases h)⟩ (Nat.zero_le _) ⟨rfl, (by rintro ⟨x, hx, h⟩; simp at hx; omega), (show markedS 2 [] = true by decide)⟩ (fun h => by have := h.1; cases this)) ?_
  rintro e x18 rfl hb
  replace HX := Lh (HX.o.keep hb)
  replace HBW := Lh (HBW.o.trans (hb.mono HBW.o.size))
  clear hb
  go_wp2_with fail
  refine Calls.via (w0 := x18) (by repeat (first | exact Below.refl _ _ | refine BW.alloc ?_ _ | refine BW.drew ?_)) (fun hb => small36_any _) ?_
  rintro e x19 rfl hb
  replace HX := Lh (HX.o.keep hb)
  replace HBW := Lh (HBW.o.trans (hb.mono HBW.o.size))
  clear hb
  go_wp2_with fail
  have hbl : Below x19.heap.size x19 (x19.alloc (.cells #[.int .i64 0, .int .i64 1] 3)) := BW.alloc (Below.refl _ _) _
  have hbl0 := HBW.o.trans (hbl.mono HBW.o.size)
  refine (seal_any (P := 23) (Q := 11) (G := 4) (y := 18) (n := 2) (ms := [0, 1]) (seed := seedZ 3) _ (HT.o.below hbl0) (by decide) (by decide) (by decide) (by decide) (ShI.lit2 .i64 x19 0 1 3 _ rfl) (by intro h; cases h) (by intro x hx; simp at hx; omega) (by omega) rfl (seedZ_bytes (by decide))).mono ?_
  rintro e w2 hs
  obtain ⟨hb2, V, R, rfl, hV, hR, hF, hvp, hrg, hmt⟩ := seal3 hs
  have HF := Lh hF
  have HVP := Lh (show goodV 23 11 4 18 2 false V from ⟨hF.vo, hvp⟩)
  have HNG := Lh (show ¬ goodV 23 11 4 18 2 true V from fun h => by have := h.1; rw [hF.vo] at this; cases this)
  have HRG := Lh hrg
  have HMT := Lh hmt
  have HV := Lh hV
  have HR := Lh hR
  replace HX := Lh (HX.o.keep (hbl.trans (hb2.mono hbl.size)))
  have HW2 := Lh (show w.heap.size ≤ w2.heap.size from Nat.le_trans hbl0.size hb2.size)
  have HT2 := Lh (HT.o.below (hbl0.trans (hb2.mono hbl0.size)))
  replace HBW := Lh (show Below w.heap.size w ((w2.alloc (.cells V.ca 29)).alloc (.cells #[.slice R.a R.n R.c, .slice R.b R.m R.d] 57)) from ((hbl0.trans (hb2.mono hbl0.size)).alloc HW2.o _).alloc (by have := HW2.o; simp; omega) _)
  have HB2 := Lh (show Below w2.heap.size w2 ((w2.alloc (.cells V.ca 29)).alloc (.cells #[.slice R.a R.n R.c, .slice R.b R.m R.d] 57)) from ((Below.refl _ _).alloc (Nat.le_refl _) _).alloc (by simp) _)
  have F_v := Lh ((Cl.at w2 V.cl 29 w2.heap.size rfl).alloc (.cells #[.slice R.a R.n R.c, .slice R.b R.m R.d] 57))
  have F_r := Lh (Cl.at (w2.alloc (.cells V.ca 29)) [.slice R.a R.n R.c, .slice R.b R.m R.d] 57 (w2.heap.size + 1) (by simp))
  clear hs hbl hbl0 hb2 hV hR hF hvp hrg hmt HT
  unfold Vt.v Rv.v
  go_wp2_with fail
  replace F_v := Lh F_v.o.drew
  replace F_r := Lh F_r.o.drew
  replace HBW := Lh HBW.o.drew
  replace HB2 := Lh HB2.o.drew
  have hS0 := F_v.o
  refine wp_region_stage 8 (fun w' => Cl w' w2.heap.size V.cl) (by kernel_rfl) ?_
  refine tkP (i := 1) (some 130) (.build 53 #[]) 53 (v := ?_) (fun _ => hS0) (fun w => ?_) ?_
  rotate_left; · unfold bareOp; go_simp; try with_reducible rfl
  simp only [Act.put, sZ]
  refine tkL (i := 2) (some 131) (.load 29 (.tmp 29)) 29 [3, 4, 5, 8] (v := ?_) hS0 (fun w' hSw => ?_) ?_
  rotate_left
  · have t1 := hSw; obtain ⟨⟨q0, q1, q2, q3, q4, q5, q6, q7, q8, q9, q10⟩, -⟩ := t1.k11
    unfold bareOp; go_simp; try with_reducible rfl
  simp only [Act.put, sZ]
  refine wpAnyB_cloud0 (fuel := 2) [(0, 129), (3, 132), (4, 128), (5, 133), (6, 134), (7, 32)] [4, 5, 6] (fun y w' => Cl w' w2.heap.size V.cl ∧ Cl w' (w2.heap.size + 1) [.slice R.a R.n R.c, .slice R.b R.m R.d] ∧ Below w.heap.size w w' ∧ Below w2.heap.size w2 w' ∧ (∀ v, y 0 = some v → v = .agg #[.int .u64 23, .int .u64 11, .int .u64 4]) ∧ (∀ v, y 3 = some v → v = .tuple #[.agg #[.slice none 0 0, .slice none 0 0, .slice none 0 0], .int .i64 360]) ∧ (∀ v, y 4 = some v → v = .tuple #[.agg #[.slice none 0 0, .slice none 0 0, .slice none 0 0], .int .i64 360]) ∧ (∀ v, y 5 = some v → v = .agg #[.slice none 0 0, .slice none 0 0, .slice none 0 0]) ∧ (∀ v, y 6 = some v → v = .int .i64 360) ∧ (∀ v, y 7 = some v → ∃ B, v = .pointer (some ⟨B, 0, none⟩) ∧ w2.heap.size + 1 < B ∧  Cl w' B [.slice none 0 0, .slice none 0 0, .slice none 0 0])) rfl (by decide) (by decide) (by kernel_rfl) (by kernel_rfl) (by kernel_rfl) (fun _ _ _ _ _ h => h) (fun y w' hI => hI.1) ⟨F_v.o, F_r.o, HBW.o, HB2.o, fun v h => (by cases h), fun v h => (by cases h), fun v h => (by cases h), fun v h => (by cases h), fun v h => (by cases h), fun v h => (by cases h)⟩ ?_ ?_
  · intro p hp y w8 hyn hy hrd hI
    obtain ⟨hv, hr, hbw, hb2, hq0, hq3, hq4, hq5, hq6, hq7⟩ := hI
    simp only [List.mem_cons, List.not_mem_nil, or_false] at hp
    rcases hp with rfl | rfl | rfl | rfl | rfl | rfl
    · refine takeN (by kernel_rfl) (wpOp_bare (some 129) (Op.call { callee := Callee.value (Operand.func 28), args := #[], argTypes := #[] }) 49 ⟨_, rfl, rfl, rfl, rfl, rfl⟩ (fun K hK => ?_))
      refine wp_of_enter (run_call _ _ _ _ 28 Tryd.func28 (vs := #[]) ?hv rfl (by kernel_rfl) (by kernel_rfl)) (small36_any w8) ?_
      case hv =>
       simp only [List.map_toArray, List.map_cons, List.map_nil]
      rintro e w9 ⟨rfl, hb9⟩
      refine ⟨_, rfl, hK.o _ _ ⟨_, rfl, ?_⟩⟩
      refine ⟨hv.keep hb9, hr.keep hb9, hbw.trans (hb9.mono hbw.size), hb2.trans (hb9.mono hb2.size), ?_, ?_, ?_, ?_, ?_, ?_⟩
      · exact fun v hv => (uS hv).symm
      · exact fun v hv => hq3 v (uN hv)
      · exact fun v hv => hq4 v (uN hv)
      · exact fun v hv => hq5 v (uN hv)
      · exact fun v hv => hq6 v (uN hv)
      · intro v hv; have h := hq7 v (uN hv); obtain ⟨B, h1, h2, hL⟩ := h; exact ⟨B, h1, h2, hL.keep hb9⟩
    · refine takeN (by kernel_rfl) (wpOp_bare (some 132) (Op.call { callee := Callee.value (Operand.func 19), args := #[Operand.tmp 129, Operand.const (Value.int IntKind.u64 18), Operand.const (Value.int IntKind.i64 2), Operand.const (Value.bool true), Operand.tmp 130, Operand.tmp 131], argTypes := #[49, 24, 3, 4, 53, 29] }) 60 ⟨_, rfl, rfl, rfl, rfl, rfl⟩ (fun K hK => ?_))
      obtain ⟨v0, hv0⟩ := depC hy (j := 0) (d := 129) (by simp) hrd rfl (by kernel_rfl)
      obtain rfl := hq0 v0 hv0
      refine wp_of_enter (run_call _ _ _ _ 19 Tryd.func19 (vs := #[.agg #[.int .u64 23, .int .u64 11, .int .u64 4], .int .u64 18, .int .i64 2, .bool true, .agg #[.slice none 0 0, .slice none 0 0, .slice none 0 0], V.v]) ?hv rfl (by kernel_rfl) (by kernel_rfl)) (cast_err (B := nilB) (er := 360) w8 (HT2.o.below hb2) (nilB_in _) nilB_sm (HV.o.keep hb2) (by rw [HF.o.vn]; decide) (by rw [HF.o.vm]; decide) (by decide) (fun k e h => h.vote chk_s nilB_ok HNG.o)) ?_
      case hv =>
       simp only [List.map_toArray, List.map_cons, List.map_nil]
       rw [eval_putC_not _ _ 130 (by decide), eval_putC_not _ _ 131 (by decide), eval_putC _ _ (j := 0) (d := 129) (by simp) (by decide) hv0 (of_decide_eq_true (by kernel_rfl))]
       rfl
      rintro e w9 ⟨rfl, hb9⟩
      refine ⟨_, rfl, hK.o _ _ ⟨_, rfl, ?_⟩⟩
      refine ⟨hv.keep hb9, hr.keep hb9, hbw.trans (hb9.mono hbw.size), hb2.trans (hb9.mono hb2.size), ?_, ?_, ?_, ?_, ?_, ?_⟩
      · exact fun v hv => hq0 v (uN hv)
      · exact fun v hv => (uS hv).symm
      · exact fun v hv => hq4 v (uN hv)
      · exact fun v hv => hq5 v (uN hv)
      · exact fun v hv => hq6 v (uN hv)
      · intro v hv; have h := hq7 v (uN hv); obtain ⟨B, h1, h2, hL⟩ := h; exact ⟨B, h1, h2, hL.keep hb9⟩
    · refine takeF (by kernel_rfl) ?_
      obtain ⟨v3, hv3⟩ := depC hy (j := 3) (d := 132) (by simp) hrd rfl (by kernel_rfl)
      obtain rfl := hq3 v3 hv3
      refine yields_bare _ _ ⟨_, rfl, rfl, rfl, rfl, rfl⟩ (fun w => run_move _ w _ _ _ (eval_putC _ _ (j := 3) (d := 132) (by simp) (by decide) hv3 (of_decide_eq_true (by kernel_rfl)))) ?_
      refine ⟨hv, hr, hbw, hb2, ?_, ?_, ?_, ?_, ?_, ?_⟩
      · exact fun v hv => hq0 v (uN hv)
      · exact fun v hv => hq3 v (uN hv)
      · exact fun v hv => (uS hv).symm
      · exact fun v hv => hq5 v (uN hv)
      · exact fun v hv => hq6 v (uN hv)
      · exact fun v hv => hq7 v (uN hv)
    · refine takeF (by kernel_rfl) ?_
      obtain ⟨v4, hv4⟩ := depC hy (j := 4) (d := 128) (by simp) hrd rfl (by kernel_rfl)
      obtain rfl := hq4 v4 hv4
      refine yields_bare _ _ ⟨_, rfl, rfl, rfl, rfl, rfl⟩ (fun w => run_extract _ w _ _ _ 0 (eval_putC _ _ (j := 4) (d := 128) (by simp) (by decide) hv4 (of_decide_eq_true (by kernel_rfl))) rfl) ?_
      refine ⟨hv, hr, hbw, hb2, ?_, ?_, ?_, ?_, ?_, ?_⟩
      · exact fun v hv => hq0 v (uN hv)
      · exact fun v hv => hq3 v (uN hv)
      · exact fun v hv => hq4 v (uN hv)
      · exact fun v hv => (uS hv).symm
      · exact fun v hv => hq6 v (uN hv)
      · exact fun v hv => hq7 v (uN hv)
    · refine takeF (by kernel_rfl) ?_
      obtain ⟨v4, hv4⟩ := depC hy (j := 4) (d := 128) (by simp) hrd rfl (by kernel_rfl)
      obtain rfl := hq4 v4 hv4
      refine yields_bare _ _ ⟨_, rfl, rfl, rfl, rfl, rfl⟩ (fun w => run_extract _ w _ _ _ 1 (eval_putC _ _ (j := 4) (d := 128) (by simp) (by decide) hv4 (of_decide_eq_true (by kernel_rfl))) rfl) ?_
      refine ⟨hv, hr, hbw, hb2, ?_, ?_, ?_, ?_, ?_, ?_⟩
      · exact fun v hv => hq0 v (uN hv)
      · exact fun v hv => hq3 v (uN hv)
      · exact fun v hv => hq4 v (uN hv)
      · exact fun v hv => hq5 v (uN hv)
      · exact fun v hv => (uS hv).symm
      · exact fun v hv => hq7 v (uN hv)
    · refine takeN (by kernel_rfl) (wpOp_bare (some 32) (Op.alloc 53) 0 ⟨_, rfl, rfl, rfl, rfl, rfl⟩ (fun K hK => ?_))
      refine wp_of_run (run_al_booth _ _ _ _) (hK.o _ _ ⟨_, rfl, ?_⟩)
      refine ⟨hv.alloc _, hr.alloc _, hbw.alloc hbw.size _, hb2.alloc hb2.size _, ?_, ?_, ?_, ?_, ?_, ?_⟩
      · exact fun v hv => hq0 v (uN hv)
      · exact fun v hv => hq3 v (uN hv)
      · exact fun v hv => hq4 v (uN hv)
      · exact fun v hv => hq5 v (uN hv)
      · exact fun v hv => hq6 v (uN hv)
      · intro v hv; rw [updC_same] at hv; cases hv; exact ⟨w8.heap.size, rfl, hr.lt,  Cl.at w8 [.slice none 0 0, .slice none 0 0, .slice none 0 0] _ _ rfl⟩
  intro y w9 hall hI
  obtain ⟨hv, hr, hbw, hb2, hq0, hq3, hq4, hq5, hq6, hq7⟩ := hI
  obtain ⟨v0, hv0⟩ := Option.isSome_iff_exists.1 (hall (0, 129) (by simp))
  obtain ⟨v3, hv3⟩ := Option.isSome_iff_exists.1 (hall (3, 132) (by simp))
  obtain ⟨v4, hv4⟩ := Option.isSome_iff_exists.1 (hall (4, 128) (by simp))
  obtain ⟨v5, hv5⟩ := Option.isSome_iff_exists.1 (hall (5, 133) (by simp))
  obtain ⟨v6, hv6⟩ := Option.isSome_iff_exists.1 (hall (6, 134) (by simp))
  obtain ⟨v7, hv7⟩ := Option.isSome_iff_exists.1 (hall (7, 32) (by simp))
  clear hall
  obtain rfl := hq0 v0 hv0
  obtain rfl := hq3 v3 hv3
  obtain rfl := hq4 v4 hv4
  obtain rfl := hq5 v5 hv5
  obtain rfl := hq6 v6 hv6
  obtain ⟨Bb, rfl, hltb, hLb⟩ := hq7 v7 hv7
  replace F_v := Lh hv
  replace F_r := Lh hr
  have F_n := Lh hLb
  replace HBW := Lh hbw
  replace HB2 := Lh hb2
  have hS0 := hv
  clear hv hr hbw hb2 hq0 hq3 hq4 hq5 hq6 hq7 hLb
  simp only [putC, setAll, Act.put, sZ, Option.getD_some, hv0, hv3, hv4, hv5, hv6, hv7]
  clear hv0 hv3 hv4 hv5 hv6 hv7
  refine onl (i := 8) none (.store 53 (.tmp 32) (.tmp 133)) 0 (fun K hK => ?_)
  unfold bareOp
  refine wp_storeCl 53 (.tmp 32) (.tmp 133) Bb 0 [.slice none 0 0, .slice none 0 0, .slice none 0 0] [.slice none 0 0, .slice none 0 0, .slice none 0 0] [.slice none 0 0, .slice none 0 0, .slice none 0 0] rfl rfl rfl (by kernel_rfl) (by intro u hu; simp at hu; rcases hu with rfl | rfl | rfl <;> rfl) F_n.o (by simp) rfl ?_
  intro w5 hca hga hza
  have hb2s := HB2.o.size
  have hbws := HBW.o.size
  have hw22 := HW2.o
  replace F_n := Lh hca
  replace F_v := Lh (F_v.o.gro hga (by omega))
  replace F_r := Lh (F_r.o.gro hga (by omega))
  replace HBW := Lh (HBW.o.trans (hga.blw (n := w.heap.size) (by omega) hbws))
  replace HB2 := Lh (HB2.o.trans (hga.blw (n := w2.heap.size) (by omega) hb2s))
  clear hca hga hza hS0 hb2s hbws
  refine hK.o _ _ lt8 ?_
  clear hK K
  try simp only [Act.put, sZ]
  refine tkP (i := 9) (some 33) (.assign (.tmp 134)) 32 (v := ?_) lt8 (fun w => ?_) ?_
  rotate_left; · unfold bareOp; go_simp; try with_reducible rfl
  simp only [Act.put, sZ]
  refine wpAnyB_done (by kernel_rfl) ?_ _
  go_wp2_with fail
  replace F_v := Lh F_v.o.drew
  replace F_r := Lh F_r.o.drew
  replace HBW := Lh HBW.o.drew
  replace HB2 := Lh HB2.o.drew
  have hS0 := F_v.o
  refine wp_region_stage 9 (fun w' => Cl w' w2.heap.size V.cl) (by kernel_rfl) ?_
  refine tkL (i := 3) (some 139) (.load 29 (.tmp 29)) 29 [4, 5, 6, 9] (v := ?_) hS0 (fun w' hSw => ?_) ?_
  rotate_left
  · have t1 := hSw; obtain ⟨⟨q0, q1, q2, q3, q4, q5, q6, q7, q8, q9, q10⟩, -⟩ := t1.k11
    unfold bareOp; go_simp; try with_reducible rfl
  simp only [Act.put, sZ]
  refine wpAnyB_cloud0 (fuel := 2) [(0, 136), (1, 137), (2, 138), (4, 140), (5, 135), (6, 141), (7, 142), (8, 34)] [2, 5, 6, 7] (fun y w' => Cl w' w2.heap.size V.cl ∧ Cl w' (w2.heap.size + 1) [.slice R.a R.n R.c, .slice R.b R.m R.d] ∧ Below w.heap.size w w' ∧ Below w2.heap.size w2 w' ∧ (∀ v, y 0 = some v → v = .agg #[.int .u64 23, .int .u64 11, .int .u64 4]) ∧ (∀ v, y 1 = some v → ∃ b, v = .slice (some ⟨b, 0, none⟩) 1 1 ∧ Cl w' b [.slice none 0 0, .slice none 0 0]) ∧ (∀ v, y 2 = some v → ∃ b, v = .agg #[.slice none 0 0, .slice none 0 0, .slice (some ⟨b, 0, none⟩) 1 1] ∧ Cl w' b [.slice none 0 0, .slice none 0 0]) ∧ (∀ v, y 4 = some v → v = .tuple #[.agg #[.slice none 0 0, .slice none 0 0, .slice none 0 0], .int .i64 8]) ∧ (∀ v, y 5 = some v → v = .tuple #[.agg #[.slice none 0 0, .slice none 0 0, .slice none 0 0], .int .i64 8]) ∧ (∀ v, y 6 = some v → v = .agg #[.slice none 0 0, .slice none 0 0, .slice none 0 0]) ∧ (∀ v, y 7 = some v → v = .int .i64 8) ∧ (∀ v, y 8 = some v → ∃ B, v = .pointer (some ⟨B, 0, none⟩) ∧ w2.heap.size + 1 < B ∧  Cl w' B [.slice none 0 0, .slice none 0 0, .slice none 0 0])) rfl (by decide) (by decide) (by kernel_rfl) (by kernel_rfl) (by kernel_rfl) (fun _ _ _ _ _ h => h) (fun y w' hI => hI.1) ⟨F_v.o, F_r.o, HBW.o, HB2.o, fun v h => (by cases h), fun v h => (by cases h), fun v h => (by cases h), fun v h => (by cases h), fun v h => (by cases h), fun v h => (by cases h), fun v h => (by cases h), fun v h => (by cases h)⟩ ?_ ?_
  · intro p hp y w8 hyn hy hrd hI
    obtain ⟨hv, hr, hbw, hb2, hq0, hq1, hq2, hq4, hq5, hq6, hq7, hq8⟩ := hI
    simp only [List.mem_cons, List.not_mem_nil, or_false] at hp
    rcases hp with rfl | rfl | rfl | rfl | rfl | rfl | rfl | rfl
    · refine takeN (by kernel_rfl) (wpOp_bare (some 136) (Op.call { callee := Callee.value (Operand.func 28), args := #[], argTypes := #[] }) 49 ⟨_, rfl, rfl, rfl, rfl, rfl⟩ (fun K hK => ?_))
      refine wp_of_enter (run_call _ _ _ _ 28 Tryd.func28 (vs := #[]) ?hv rfl (by kernel_rfl) (by kernel_rfl)) (small36_any w8) ?_
      case hv =>
       simp only [List.map_toArray, List.map_cons, List.map_nil]
      rintro e w9 ⟨rfl, hb9⟩
      refine ⟨_, rfl, hK.o _ _ ⟨_, rfl, ?_⟩⟩
      refine ⟨hv.keep hb9, hr.keep hb9, hbw.trans (hb9.mono hbw.size), hb2.trans (hb9.mono hb2.size), ?_, ?_, ?_, ?_, ?_, ?_, ?_, ?_⟩
      · exact fun v hv => (uS hv).symm
      · intro v hv; have h := hq1 v (uN hv); obtain ⟨b, g1, g2⟩ := h; exact ⟨b, g1, g2.keep hb9⟩
      · intro v hv; have h := hq2 v (uN hv); obtain ⟨b, g1, g2⟩ := h; exact ⟨b, g1, g2.keep hb9⟩
      · exact fun v hv => hq4 v (uN hv)
      · exact fun v hv => hq5 v (uN hv)
      · exact fun v hv => hq6 v (uN hv)
      · exact fun v hv => hq7 v (uN hv)
      · intro v hv; have h := hq8 v (uN hv); obtain ⟨B, h1, h2, hL⟩ := h; exact ⟨B, h1, h2, hL.keep hb9⟩
    · refine takeN (by kernel_rfl) (wpOp_bare (some 137) (Op.makeSlice 51 (Operand.const (Value.int IntKind.i64 1)) (Operand.const (Value.int IntKind.i64 1))) 51 ⟨_, rfl, rfl, rfl, rfl, rfl⟩ (fun K hK => ?_))
      refine wp_of_run (run_mk_rev _ _ _ _ _ _ rfl rfl) (hK.o _ _ ⟨_, rfl, ?_⟩)
      refine ⟨hv.alloc _, hr.alloc _, hbw.alloc hbw.size _, hb2.alloc hb2.size _, ?_, ?_, ?_, ?_, ?_, ?_, ?_, ?_⟩
      · exact fun v hv => hq0 v (uN hv)
      · intro v hv; rw [updC_same] at hv; cases hv; exact ⟨w8.heap.size, rfl, Cl.at w8 [.slice none 0 0, .slice none 0 0] _ _ rfl⟩
      · intro v hv; have h := hq2 v (uN hv); obtain ⟨b, g1, g2⟩ := h; exact ⟨b, g1, g2.alloc _⟩
      · exact fun v hv => hq4 v (uN hv)
      · exact fun v hv => hq5 v (uN hv)
      · exact fun v hv => hq6 v (uN hv)
      · exact fun v hv => hq7 v (uN hv)
      · intro v hv; have h := hq8 v (uN hv); obtain ⟨B, h1, h2, hL⟩ := h; exact ⟨B, h1, h2, hL.alloc _⟩
    · refine takeF (by kernel_rfl) ?_
      obtain ⟨v1, hv1⟩ := depC hy (j := 1) (d := 137) (by simp) hrd rfl (by kernel_rfl)
      obtain ⟨b, rfl, g2⟩ := hq1 v1 hv1
      refine yields_bare _ _ ⟨_, rfl, rfl, rfl, rfl, rfl⟩ (fun w => run_bd_odd _ w _ _ _ (eval_putC _ _ (j := 1) (d := 137) (by simp) (by decide) hv1 (of_decide_eq_true (by kernel_rfl)))) ?_
      refine ⟨hv, hr, hbw, hb2, ?_, ?_, ?_, ?_, ?_, ?_, ?_, ?_⟩
      · exact fun v hv => hq0 v (uN hv)
      · exact fun v hv => hq1 v (uN hv)
      · intro v hv; rw [updC_same] at hv; cases hv; exact ⟨b, rfl, g2⟩
      · exact fun v hv => hq4 v (uN hv)
      · exact fun v hv => hq5 v (uN hv)
      · exact fun v hv => hq6 v (uN hv)
      · exact fun v hv => hq7 v (uN hv)
      · exact fun v hv => hq8 v (uN hv)
    · refine takeN (by kernel_rfl) (wpOp_bare (some 140) (Op.call { callee := Callee.value (Operand.func 19), args := #[Operand.tmp 136, Operand.const (Value.int IntKind.u64 18), Operand.const (Value.int IntKind.i64 2), Operand.const (Value.bool false), Operand.tmp 138, Operand.tmp 139], argTypes := #[49, 24, 3, 4, 53, 29] }) 60 ⟨_, rfl, rfl, rfl, rfl, rfl⟩ (fun K hK => ?_))
      obtain ⟨v0, hv0⟩ := depC hy (j := 0) (d := 136) (by simp) hrd rfl (by kernel_rfl)
      obtain rfl := hq0 v0 hv0
      obtain ⟨v2, hv2⟩ := depC hy (j := 2) (d := 138) (by simp) hrd rfl (by kernel_rfl)
      obtain ⟨b2, rfl, hc2⟩ := hq2 v2 hv2
      refine wp_of_enter (run_call _ _ _ _ 19 Tryd.func19 (vs := #[.agg #[.int .u64 23, .int .u64 11, .int .u64 4], .int .u64 18, .int .i64 2, .bool false, .agg #[.slice none 0 0, .slice none 0 0, .slice (some ⟨b2, 0, none⟩) 1 1], V.v]) ?hv rfl (by kernel_rfl) (by kernel_rfl)) (cast_err (B := oddB b2) (er := 8) w8 (HT2.o.below hb2) (oddB_in hc2) (oddB_sm b2) (HV.o.keep hb2) (by rw [HF.o.vn]; decide) (by rw [HF.o.vm]; decide) (by decide) (fun k e h => h.bad chk_s oddB_no)) ?_
      case hv =>
       simp only [List.map_toArray, List.map_cons, List.map_nil]
       rw [eval_putC_not _ _ 139 (by decide), eval_putC _ _ (j := 0) (d := 136) (by simp) (by decide) hv0 (of_decide_eq_true (by kernel_rfl)), eval_putC _ _ (j := 2) (d := 138) (by simp) (by decide) hv2 (of_decide_eq_true (by kernel_rfl))]
       rfl
      rintro e w9 ⟨rfl, hb9⟩
      refine ⟨_, rfl, hK.o _ _ ⟨_, rfl, ?_⟩⟩
      refine ⟨hv.keep hb9, hr.keep hb9, hbw.trans (hb9.mono hbw.size), hb2.trans (hb9.mono hb2.size), ?_, ?_, ?_, ?_, ?_, ?_, ?_, ?_⟩
      · exact fun v hv => hq0 v (uN hv)
      · intro v hv; have h := hq1 v (uN hv); obtain ⟨b, g1, g2⟩ := h; exact ⟨b, g1, g2.keep hb9⟩
      · intro v hv; have h := hq2 v (uN hv); obtain ⟨b, g1, g2⟩ := h; exact ⟨b, g1, g2.keep hb9⟩
      · exact fun v hv => (uS hv).symm
      · exact fun v hv => hq5 v (uN hv)
      · exact fun v hv => hq6 v (uN hv)
      · exact fun v hv => hq7 v (uN hv)
      · intro v hv; have h := hq8 v (uN hv); obtain ⟨B, h1, h2, hL⟩ := h; exact ⟨B, h1, h2, hL.keep hb9⟩
    · refine takeF (by kernel_rfl) ?_
      obtain ⟨v4, hv4⟩ := depC hy (j := 4) (d := 140) (by simp) hrd rfl (by kernel_rfl)
      obtain rfl := hq4 v4 hv4
      refine yields_bare _ _ ⟨_, rfl, rfl, rfl, rfl, rfl⟩ (fun w => run_move _ w _ _ _ (eval_putC _ _ (j := 4) (d := 140) (by simp) (by decide) hv4 (of_decide_eq_true (by kernel_rfl)))) ?_
      refine ⟨hv, hr, hbw, hb2, ?_, ?_, ?_, ?_, ?_, ?_, ?_, ?_⟩
      · exact fun v hv => hq0 v (uN hv)
      · exact fun v hv => hq1 v (uN hv)
      · exact fun v hv => hq2 v (uN hv)
      · exact fun v hv => hq4 v (uN hv)
      · exact fun v hv => (uS hv).symm
      · exact fun v hv => hq6 v (uN hv)
      · exact fun v hv => hq7 v (uN hv)
      · exact fun v hv => hq8 v (uN hv)
    · refine takeF (by kernel_rfl) ?_
      obtain ⟨v5, hv5⟩ := depC hy (j := 5) (d := 135) (by simp) hrd rfl (by kernel_rfl)
      obtain rfl := hq5 v5 hv5
      refine yields_bare _ _ ⟨_, rfl, rfl, rfl, rfl, rfl⟩ (fun w => run_extract _ w _ _ _ 0 (eval_putC _ _ (j := 5) (d := 135) (by simp) (by decide) hv5 (of_decide_eq_true (by kernel_rfl))) rfl) ?_
      refine ⟨hv, hr, hbw, hb2, ?_, ?_, ?_, ?_, ?_, ?_, ?_, ?_⟩
      · exact fun v hv => hq0 v (uN hv)
      · exact fun v hv => hq1 v (uN hv)
      · exact fun v hv => hq2 v (uN hv)
      · exact fun v hv => hq4 v (uN hv)
      · exact fun v hv => hq5 v (uN hv)
      · exact fun v hv => (uS hv).symm
      · exact fun v hv => hq7 v (uN hv)
      · exact fun v hv => hq8 v (uN hv)
    · refine takeF (by kernel_rfl) ?_
      obtain ⟨v5, hv5⟩ := depC hy (j := 5) (d := 135) (by simp) hrd rfl (by kernel_rfl)
      obtain rfl := hq5 v5 hv5
      refine yields_bare _ _ ⟨_, rfl, rfl, rfl, rfl, rfl⟩ (fun w => run_extract _ w _ _ _ 1 (eval_putC _ _ (j := 5) (d := 135) (by simp) (by decide) hv5 (of_decide_eq_true (by kernel_rfl))) rfl) ?_
      refine ⟨hv, hr, hbw, hb2, ?_, ?_, ?_, ?_, ?_, ?_, ?_, ?_⟩
      · exact fun v hv => hq0 v (uN hv)
      · exact fun v hv => hq1 v (uN hv)
      · exact fun v hv => hq2 v (uN hv)
      · exact fun v hv => hq4 v (uN hv)
      · exact fun v hv => hq5 v (uN hv)
      · exact fun v hv => hq6 v (uN hv)
      · exact fun v hv => (uS hv).symm
      · exact fun v hv => hq8 v (uN hv)
    · refine takeN (by kernel_rfl) (wpOp_bare (some 34) (Op.alloc 53) 0 ⟨_, rfl, rfl, rfl, rfl, rfl⟩ (fun K hK => ?_))
      refine wp_of_run (run_al_booth _ _ _ _) (hK.o _ _ ⟨_, rfl, ?_⟩)
      refine ⟨hv.alloc _, hr.alloc _, hbw.alloc hbw.size _, hb2.alloc hb2.size _, ?_, ?_, ?_, ?_, ?_, ?_, ?_, ?_⟩
      · exact fun v hv => hq0 v (uN hv)
      · intro v hv; have h := hq1 v (uN hv); obtain ⟨b, g1, g2⟩ := h; exact ⟨b, g1, g2.alloc _⟩
      · intro v hv; have h := hq2 v (uN hv); obtain ⟨b, g1, g2⟩ := h; exact ⟨b, g1, g2.alloc _⟩
      · exact fun v hv => hq4 v (uN hv)
      · exact fun v hv => hq5 v (uN hv)
      · exact fun v hv => hq6 v (uN hv)
      · exact fun v hv => hq7 v (uN hv)
      · intro v hv; rw [updC_same] at hv; cases hv; exact ⟨w8.heap.size, rfl, hr.lt,  Cl.at w8 [.slice none 0 0, .slice none 0 0, .slice none 0 0] _ _ rfl⟩
  intro y w9 hall hI
  obtain ⟨hv, hr, hbw, hb2, hq0, hq1, hq2, hq4, hq5, hq6, hq7, hq8⟩ := hI
  obtain ⟨v0, hv0⟩ := Option.isSome_iff_exists.1 (hall (0, 136) (by simp))
  obtain ⟨v1, hv1⟩ := Option.isSome_iff_exists.1 (hall (1, 137) (by simp))
  obtain ⟨v2, hv2⟩ := Option.isSome_iff_exists.1 (hall (2, 138) (by simp))
  obtain ⟨v4, hv4⟩ := Option.isSome_iff_exists.1 (hall (4, 140) (by simp))
  obtain ⟨v5, hv5⟩ := Option.isSome_iff_exists.1 (hall (5, 135) (by simp))
  obtain ⟨v6, hv6⟩ := Option.isSome_iff_exists.1 (hall (6, 141) (by simp))
  obtain ⟨v7, hv7⟩ := Option.isSome_iff_exists.1 (hall (7, 142) (by simp))
  obtain ⟨v8, hv8⟩ := Option.isSome_iff_exists.1 (hall (8, 34) (by simp))
  clear hall
  obtain rfl := hq0 v0 hv0
  obtain rfl := hq4 v4 hv4
  obtain rfl := hq5 v5 hv5
  obtain rfl := hq6 v6 hv6
  obtain rfl := hq7 v7 hv7
  obtain ⟨Bb, rfl, hltb, hLb⟩ := hq8 v8 hv8
  obtain ⟨b1, rfl, -⟩ := hq1 v1 hv1
  obtain ⟨b2, rfl, -⟩ := hq2 v2 hv2
  replace F_v := Lh hv
  replace F_r := Lh hr
  have F_n := Lh hLb
  replace HBW := Lh hbw
  replace HB2 := Lh hb2
  have hS0 := hv
  clear hv hr hbw hb2 hq0 hq1 hq2 hq4 hq5 hq6 hq7 hq8 hLb
  simp only [putC, setAll, Act.put, sZ, Option.getD_some, hv0, hv1, hv2, hv4, hv5, hv6, hv7, hv8]
  clear hv0 hv1 hv2 hv4 hv5 hv6 hv7 hv8
  refine onl (i := 9) none (.store 53 (.tmp 34) (.tmp 141)) 0 (fun K hK => ?_)
  unfold bareOp
  refine wp_storeCl 53 (.tmp 34) (.tmp 141) Bb 0 [.slice none 0 0, .slice none 0 0, .slice none 0 0] [.slice none 0 0, .slice none 0 0, .slice none 0 0] [.slice none 0 0, .slice none 0 0, .slice none 0 0] rfl rfl rfl (by kernel_rfl) (by intro u hu; simp at hu; rcases hu with rfl | rfl | rfl <;> rfl) F_n.o (by simp) rfl ?_
  intro w5 hca hga hza
  have hb2s := HB2.o.size
  have hbws := HBW.o.size
  have hw22 := HW2.o
  replace F_n := Lh hca
  replace F_v := Lh (F_v.o.gro hga (by omega))
  replace F_r := Lh (F_r.o.gro hga (by omega))
  replace HBW := Lh (HBW.o.trans (hga.blw (n := w.heap.size) (by omega) hbws))
  replace HB2 := Lh (HB2.o.trans (hga.blw (n := w2.heap.size) (by omega) hb2s))
  clear hca hga hza hS0 hb2s hbws
  refine hK.o _ _ lt8 ?_
  clear hK K
  try simp only [Act.put, sZ]
  refine tkP (i := 10) (some 35) (.assign (.tmp 142)) 32 (v := ?_) lt8 (fun w => ?_) ?_
  rotate_left; · unfold bareOp; go_simp; try with_reducible rfl
  simp only [Act.put, sZ]
  refine wpAnyB_done (by kernel_rfl) ?_ _
  go_wp2_with fail
  replace F_v := Lh F_v.o.drew
  replace F_r := Lh F_r.o.drew
  replace HBW := Lh HBW.o.drew
  replace HB2 := Lh HB2.o.drew
  have hS0 := F_v.o
  refine wp_region_stage 8 (fun w' => Cl w' w2.heap.size V.cl) (by kernel_rfl) ?_
  refine tkP (i := 1) (some 145) (.build 53 #[]) 53 (v := ?_) (fun _ => hS0) (fun w => ?_) ?_
  rotate_left; · unfold bareOp; go_simp; try with_reducible rfl
  simp only [Act.put, sZ]
  refine tkL (i := 2) (some 146) (.load 29 (.tmp 29)) 29 [3, 4, 5, 8] (v := ?_) hS0 (fun w' hSw => ?_) ?_
  rotate_left
  · have t1 := hSw; obtain ⟨⟨q0, q1, q2, q3, q4, q5, q6, q7, q8, q9, q10⟩, -⟩ := t1.k11
    unfold bareOp; go_simp; try with_reducible rfl
  simp only [Act.put, sZ]
  refine wpAnyB_cloud0 (fuel := 2) [(0, 144), (3, 147), (4, 143), (5, 148), (6, 149), (7, 36)] [4, 5, 6] (fun y w' => Cl w' w2.heap.size V.cl ∧ Cl w' (w2.heap.size + 1) [.slice R.a R.n R.c, .slice R.b R.m R.d] ∧ Below w.heap.size w w' ∧ Below w2.heap.size w2 w' ∧ (∀ v, y 0 = some v → v = .agg #[.int .u64 23, .int .u64 11, .int .u64 4]) ∧ (∀ v, y 3 = some v → ∃ Bz : Bo, v = .tuple #[Bz.v, .int .i64 0] ∧ BoIn w' Bz ∧ (Bz.n = 1 ∧ Bz.m = 0 ∧ Bz.k = 0 ∧ SameB Bz [V] [] []) ∧ ∀ b, y 7 = some (.pointer (some ⟨b, 0, none⟩)) → offBo b Bz) ∧ (∀ v, y 4 = some v → ∃ Bz : Bo, v = .tuple #[Bz.v, .int .i64 0] ∧ BoIn w' Bz ∧ (Bz.n = 1 ∧ Bz.m = 0 ∧ Bz.k = 0 ∧ SameB Bz [V] [] []) ∧ ∀ b, y 7 = some (.pointer (some ⟨b, 0, none⟩)) → offBo b Bz) ∧ (∀ v, y 5 = some v → ∃ Bz : Bo, v = Bz.v ∧ BoIn w' Bz ∧ (Bz.n = 1 ∧ Bz.m = 0 ∧ Bz.k = 0 ∧ SameB Bz [V] [] []) ∧ ∀ b, y 7 = some (.pointer (some ⟨b, 0, none⟩)) → offBo b Bz) ∧ (∀ v, y 6 = some v → v = .int .i64 0) ∧ (∀ v, y 7 = some v → ∃ B, v = .pointer (some ⟨B, 0, none⟩) ∧ w2.heap.size + 1 < B ∧  Cl w' B [.slice none 0 0, .slice none 0 0, .slice none 0 0])) rfl (by decide) (by decide) (by kernel_rfl) (by kernel_rfl) (by kernel_rfl) (fun _ _ _ _ _ h => h) (fun y w' hI => hI.1) ⟨F_v.o, F_r.o, HBW.o, HB2.o, fun v h => (by cases h), fun v h => (by cases h), fun v h => (by cases h), fun v h => (by cases h), fun v h => (by cases h), fun v h => (by cases h)⟩ ?_ ?_
  · intro p hp y w8 hyn hy hrd hI
    obtain ⟨hv, hr, hbw, hb2, hq0, hq3, hq4, hq5, hq6, hq7⟩ := hI
    simp only [List.mem_cons, List.not_mem_nil, or_false] at hp
    rcases hp with rfl | rfl | rfl | rfl | rfl | rfl
    · refine takeN (by kernel_rfl) (wpOp_bare (some 144) (Op.call { callee := Callee.value (Operand.func 28), args := #[], argTypes := #[] }) 49 ⟨_, rfl, rfl, rfl, rfl, rfl⟩ (fun K hK => ?_))
      refine wp_of_enter (run_call _ _ _ _ 28 Tryd.func28 (vs := #[]) ?hv rfl (by kernel_rfl) (by kernel_rfl)) (small36_any w8) ?_
      case hv =>
       simp only [List.map_toArray, List.map_cons, List.map_nil]
      rintro e w9 ⟨rfl, hb9⟩
      refine ⟨_, rfl, hK.o _ _ ⟨_, rfl, ?_⟩⟩
      refine ⟨hv.keep hb9, hr.keep hb9, hbw.trans (hb9.mono hbw.size), hb2.trans (hb9.mono hb2.size), ?_, ?_, ?_, ?_, ?_, ?_⟩
      · exact fun v hv => (uS hv).symm
      · intro v hv; have h := hq3 v (uN hv); obtain ⟨Bz, g1, g2, g3, g4⟩ := h; exact ⟨Bz, g1, g2.keep hb9, g3, fun b hb => g4 b (by rwa [updC_ne _ _ (by decide)] at hb)⟩
      · intro v hv; have h := hq4 v (uN hv); obtain ⟨Bz, g1, g2, g3, g4⟩ := h; exact ⟨Bz, g1, g2.keep hb9, g3, fun b hb => g4 b (by rwa [updC_ne _ _ (by decide)] at hb)⟩
      · intro v hv; have h := hq5 v (uN hv); obtain ⟨Bz, g1, g2, g3, g4⟩ := h; exact ⟨Bz, g1, g2.keep hb9, g3, fun b hb => g4 b (by rwa [updC_ne _ _ (by decide)] at hb)⟩
      · exact fun v hv => hq6 v (uN hv)
      · intro v hv; have h := hq7 v (uN hv); obtain ⟨B, h1, h2, hL⟩ := h; exact ⟨B, h1, h2, hL.keep hb9⟩
    · refine takeN (by kernel_rfl) (wpOp_bare (some 147) (Op.call { callee := Callee.value (Operand.func 19), args := #[Operand.tmp 144, Operand.const (Value.int IntKind.u64 18), Operand.const (Value.int IntKind.i64 2), Operand.const (Value.bool false), Operand.tmp 145, Operand.tmp 146], argTypes := #[49, 24, 3, 4, 53, 29] }) 60 ⟨_, rfl, rfl, rfl, rfl, rfl⟩ (fun K hK => ?_))
      obtain ⟨v0, hv0⟩ := depC hy (j := 0) (d := 144) (by simp) hrd rfl (by kernel_rfl)
      obtain rfl := hq0 v0 hv0
      refine wp_of_enter (run_call _ _ _ _ 19 Tryd.func19 (vs := #[.agg #[.int .u64 23, .int .u64 11, .int .u64 4], .int .u64 18, .int .i64 2, .bool false, .agg #[.slice none 0 0, .slice none 0 0, .slice none 0 0], V.v]) ?hv rfl (by kernel_rfl) (by kernel_rfl)) (cast_fine w8 (HT2.o.below hb2) (HV.o.keep hb2) (by rw [HF.o.vn]; decide) (by rw [HF.o.vm]; decide) HVP.o) ?_
      case hv =>
       simp only [List.map_toArray, List.map_cons, List.map_nil]
       rw [eval_putC_not _ _ 145 (by decide), eval_putC_not _ _ 146 (by decide), eval_putC _ _ (j := 0) (d := 144) (by simp) (by decide) hv0 (of_decide_eq_true (by kernel_rfl))]
       rfl
      rintro e w9 ⟨⟨Bz, rfl, g2, g3, g5⟩, hb9⟩
      refine ⟨_, rfl, hK.o _ _ ⟨_, rfl, ?_⟩⟩
      refine ⟨hv.keep hb9, hr.keep hb9, hbw.trans (hb9.mono hbw.size), hb2.trans (hb9.mono hb2.size), ?_, ?_, ?_, ?_, ?_, ?_⟩
      · exact fun v hv => hq0 v (uN hv)
      · intro v hv; rw [updC_same] at hv; cases hv; exact ⟨Bz, rfl, g2, g3, fun b hb => (by rw [updC_ne _ _ (by decide)] at hb; obtain ⟨b', e1, -, hL⟩ := hq7 _ hb; cases e1; exact g5 b hL.lt)⟩
      · intro v hv; have h := hq4 v (uN hv); obtain ⟨Bz, g1, g2, g3, g4⟩ := h; exact ⟨Bz, g1, g2.keep hb9, g3, fun b hb => g4 b (by rwa [updC_ne _ _ (by decide)] at hb)⟩
      · intro v hv; have h := hq5 v (uN hv); obtain ⟨Bz, g1, g2, g3, g4⟩ := h; exact ⟨Bz, g1, g2.keep hb9, g3, fun b hb => g4 b (by rwa [updC_ne _ _ (by decide)] at hb)⟩
      · exact fun v hv => hq6 v (uN hv)
      · intro v hv; have h := hq7 v (uN hv); obtain ⟨B, h1, h2, hL⟩ := h; exact ⟨B, h1, h2, hL.keep hb9⟩
    · refine takeF (by kernel_rfl) ?_
      obtain ⟨v3, hv3⟩ := depC hy (j := 3) (d := 147) (by simp) hrd rfl (by kernel_rfl)
      obtain ⟨Bz, rfl, g2, g3, g4⟩ := hq3 v3 hv3
      refine yields_bare _ _ ⟨_, rfl, rfl, rfl, rfl, rfl⟩ (fun w => run_move _ w _ _ _ (eval_putC _ _ (j := 3) (d := 147) (by simp) (by decide) hv3 (of_decide_eq_true (by kernel_rfl)))) ?_
      refine ⟨hv, hr, hbw, hb2, ?_, ?_, ?_, ?_, ?_, ?_⟩
      · exact fun v hv => hq0 v (uN hv)
      · intro v hv; have h := hq3 v (uN hv); obtain ⟨Bz, g1, g2, g3, g4⟩ := h; exact ⟨Bz, g1, g2, g3, fun b hb => g4 b (by rwa [updC_ne _ _ (by decide)] at hb)⟩
      · intro v hv; rw [updC_same] at hv; cases hv; exact ⟨Bz, rfl, g2, g3, fun b hb => g4 b (by rwa [updC_ne _ _ (by decide)] at hb)⟩
      · intro v hv; have h := hq5 v (uN hv); obtain ⟨Bz, g1, g2, g3, g4⟩ := h; exact ⟨Bz, g1, g2, g3, fun b hb => g4 b (by rwa [updC_ne _ _ (by decide)] at hb)⟩
      · exact fun v hv => hq6 v (uN hv)
      · exact fun v hv => hq7 v (uN hv)
    · refine takeF (by kernel_rfl) ?_
      obtain ⟨v4, hv4⟩ := depC hy (j := 4) (d := 143) (by simp) hrd rfl (by kernel_rfl)
      obtain ⟨Bz, rfl, g2, g3, g4⟩ := hq4 v4 hv4
      refine yields_bare _ _ ⟨_, rfl, rfl, rfl, rfl, rfl⟩ (fun w => run_extract _ w _ _ _ 0 (eval_putC _ _ (j := 4) (d := 143) (by simp) (by decide) hv4 (of_decide_eq_true (by kernel_rfl))) rfl) ?_
      refine ⟨hv, hr, hbw, hb2, ?_, ?_, ?_, ?_, ?_, ?_⟩
      · exact fun v hv => hq0 v (uN hv)
      · intro v hv; have h := hq3 v (uN hv); obtain ⟨Bz, g1, g2, g3, g4⟩ := h; exact ⟨Bz, g1, g2, g3, fun b hb => g4 b (by rwa [updC_ne _ _ (by decide)] at hb)⟩
      · intro v hv; have h := hq4 v (uN hv); obtain ⟨Bz, g1, g2, g3, g4⟩ := h; exact ⟨Bz, g1, g2, g3, fun b hb => g4 b (by rwa [updC_ne _ _ (by decide)] at hb)⟩
      · intro v hv; rw [updC_same] at hv; cases hv; exact ⟨Bz, rfl, g2, g3, fun b hb => g4 b (by rwa [updC_ne _ _ (by decide)] at hb)⟩
      · exact fun v hv => hq6 v (uN hv)
      · exact fun v hv => hq7 v (uN hv)
    · refine takeF (by kernel_rfl) ?_
      obtain ⟨v4, hv4⟩ := depC hy (j := 4) (d := 143) (by simp) hrd rfl (by kernel_rfl)
      obtain ⟨Bz, rfl, g2, g3, g4⟩ := hq4 v4 hv4
      refine yields_bare _ _ ⟨_, rfl, rfl, rfl, rfl, rfl⟩ (fun w => run_extract _ w _ _ _ 1 (eval_putC _ _ (j := 4) (d := 143) (by simp) (by decide) hv4 (of_decide_eq_true (by kernel_rfl))) rfl) ?_
      refine ⟨hv, hr, hbw, hb2, ?_, ?_, ?_, ?_, ?_, ?_⟩
      · exact fun v hv => hq0 v (uN hv)
      · intro v hv; have h := hq3 v (uN hv); obtain ⟨Bz, g1, g2, g3, g4⟩ := h; exact ⟨Bz, g1, g2, g3, fun b hb => g4 b (by rwa [updC_ne _ _ (by decide)] at hb)⟩
      · intro v hv; have h := hq4 v (uN hv); obtain ⟨Bz, g1, g2, g3, g4⟩ := h; exact ⟨Bz, g1, g2, g3, fun b hb => g4 b (by rwa [updC_ne _ _ (by decide)] at hb)⟩
      · intro v hv; have h := hq5 v (uN hv); obtain ⟨Bz, g1, g2, g3, g4⟩ := h; exact ⟨Bz, g1, g2, g3, fun b hb => g4 b (by rwa [updC_ne _ _ (by decide)] at hb)⟩
      · exact fun v hv => (uS hv).symm
      · exact fun v hv => hq7 v (uN hv)
    · refine takeN (by kernel_rfl) (wpOp_bare (some 36) (Op.alloc 53) 0 ⟨_, rfl, rfl, rfl, rfl, rfl⟩ (fun K hK => ?_))
      refine wp_of_run (run_al_booth _ _ _ _) (hK.o _ _ ⟨_, rfl, ?_⟩)
      refine ⟨hv.alloc _, hr.alloc _, hbw.alloc hbw.size _, hb2.alloc hb2.size _, ?_, ?_, ?_, ?_, ?_, ?_⟩
      · exact fun v hv => hq0 v (uN hv)
      · intro v hv; have h := hq3 v (uN hv); obtain ⟨Bz, g1, g2, g3, g4⟩ := h; exact ⟨Bz, g1, g2.alloc _, g3, fun b hb => (by rw [updC_same] at hb; cases hb; exact g2.freshO)⟩
      · intro v hv; have h := hq4 v (uN hv); obtain ⟨Bz, g1, g2, g3, g4⟩ := h; exact ⟨Bz, g1, g2.alloc _, g3, fun b hb => (by rw [updC_same] at hb; cases hb; exact g2.freshO)⟩
      · intro v hv; have h := hq5 v (uN hv); obtain ⟨Bz, g1, g2, g3, g4⟩ := h; exact ⟨Bz, g1, g2.alloc _, g3, fun b hb => (by rw [updC_same] at hb; cases hb; exact g2.freshO)⟩
      · exact fun v hv => hq6 v (uN hv)
      · intro v hv; rw [updC_same] at hv; cases hv; exact ⟨w8.heap.size, rfl, hr.lt,  Cl.at w8 [.slice none 0 0, .slice none 0 0, .slice none 0 0] _ _ rfl⟩
  intro y w9 hall hI
  obtain ⟨hv, hr, hbw, hb2, hq0, hq3, hq4, hq5, hq6, hq7⟩ := hI
  obtain ⟨v0, hv0⟩ := Option.isSome_iff_exists.1 (hall (0, 144) (by simp))
  obtain ⟨v3, hv3⟩ := Option.isSome_iff_exists.1 (hall (3, 147) (by simp))
  obtain ⟨v4, hv4⟩ := Option.isSome_iff_exists.1 (hall (4, 143) (by simp))
  obtain ⟨v5, hv5⟩ := Option.isSome_iff_exists.1 (hall (5, 148) (by simp))
  obtain ⟨v6, hv6⟩ := Option.isSome_iff_exists.1 (hall (6, 149) (by simp))
  obtain ⟨v7, hv7⟩ := Option.isSome_iff_exists.1 (hall (7, 36) (by simp))
  clear hall
  obtain rfl := hq0 v0 hv0
  obtain ⟨Bz3, rfl, -⟩ := hq3 v3 hv3
  obtain ⟨Bz4, rfl, -⟩ := hq4 v4 hv4
  obtain ⟨Bz, rfl, hzi, hzs, hzo⟩ := hq5 v5 hv5
  obtain rfl := hq6 v6 hv6
  obtain ⟨Bb, rfl, hltb, hLb⟩ := hq7 v7 hv7
  have HZI := Lh hzi
  have HZS := Lh hzs
  have HZO := Lh (hzo Bb hv7)
  clear hzi hzs hzo
  replace F_v := Lh hv
  replace F_r := Lh hr
  have F_n := Lh hLb
  replace HBW := Lh hbw
  replace HB2 := Lh hb2
  have hS0 := hv
  clear hv hr hbw hb2 hq0 hq3 hq4 hq5 hq6 hq7 hLb
  simp only [putC, setAll, Act.put, sZ, Option.getD_some, hv0, hv3, hv4, hv5, hv6, hv7]
  clear hv0 hv3 hv4 hv5 hv6 hv7
  refine onl (i := 8) none (.store 53 (.tmp 36) (.tmp 148)) 0 (fun K hK => ?_)
  unfold bareOp
  unfold Bo.v
  refine wp_storeCl 53 (.tmp 36) (.tmp 148) Bb 0 [.slice none 0 0, .slice none 0 0, .slice none 0 0] [.slice Bz.a Bz.n Bz.c, .slice Bz.b Bz.m Bz.d, .slice Bz.e Bz.k Bz.f] [.slice Bz.a Bz.n Bz.c, .slice Bz.b Bz.m Bz.d, .slice Bz.e Bz.k Bz.f] rfl rfl rfl (by kernel_rfl) (by intro u hu; simp at hu; rcases hu with rfl | rfl | rfl <;> rfl) F_n.o (by simp) rfl ?_
  intro w5 hca hga hza
  have hb2s := HB2.o.size
  have hbws := HBW.o.size
  have hw22 := HW2.o
  replace F_n := Lh hca
  replace F_v := Lh (F_v.o.gro hga (by omega))
  replace F_r := Lh (F_r.o.gro hga (by omega))
  replace HZI := Lh (HZI.o.grownO hga.grown HZO.o)
  replace HBW := Lh (HBW.o.trans (hga.blw (n := w.heap.size) (by omega) hbws))
  replace HB2 := Lh (HB2.o.trans (hga.blw (n := w2.heap.size) (by omega) hb2s))
  clear hca hga hza hS0 hb2s hbws
  refine hK.o _ _ lt8 ?_
  clear hK K
  try simp only [Act.put, sZ]
  refine tkP (i := 9) (some 37) (.assign (.tmp 149)) 32 (v := ?_) lt8 (fun w => ?_) ?_
  rotate_left; · unfold bareOp; go_simp; try with_reducible rfl
  simp only [Act.put, sZ]
  refine wpAnyB_done (by kernel_rfl) ?_ _
  go_wp2_with fail
  obtain ⟨wb, hwb⟩ : ∃ x, x = Bb := ⟨_, rfl⟩
  have F_b := Lh F_n.o
  have HLB := Lh (show w2.heap.size + 1 < Bb by omega)
  have HB5 := Lh (Below.refl w5.heap.size w5)
  clear F_n hwb
  replace F_v := Lh F_v.o.drew
  replace F_r := Lh F_r.o.drew
  replace F_b := Lh F_b.o.drew
  replace HBW := Lh HBW.o.drew
  replace HB2 := Lh HB2.o.drew
  replace HZI := Lh (HZI.o.keep (Below.refl _ _).drew)
  have hS0 := (And.intro F_v.o (And.intro F_r.o F_b.o))
  refine wp_region_stage 9 (fun w' => Cl w' w2.heap.size V.cl ∧ Cl w' (w2.heap.size + 1) [.slice R.a R.n R.c, .slice R.b R.m R.d] ∧ Cl w' Bb [.slice Bz.a Bz.n Bz.c, .slice Bz.b Bz.m Bz.d, .slice Bz.e Bz.k Bz.f]) (by kernel_rfl) ?_
  refine tkL (i := 1) (some 152) (.load 53 (.tmp 36)) 53 [4, 5, 6, 9] (v := ?_) hS0 (fun w' hSw => ?_) ?_
  rotate_left
  · obtain ⟨t1, t2, t3⟩ := hSw; obtain ⟨⟨q0, q1, q2, q3, q4, q5, q6, q7, q8, q9, q10⟩, -⟩ := t1.k11; have r0 := t2.c 0 _ rfl; have r1 := t2.c 1 _ rfl; have b0 := t3.c 0 _ rfl; have b1 := t3.c 1 _ rfl; have b2 := t3.c 2 _ rfl
    unfold bareOp; go_simp; try with_reducible rfl
  simp only [Act.put, sZ]
  refine tkL (i := 2) (some 153) (.load 29 (.tmp 29)) 29 [4, 5, 6, 9] (v := ?_) hS0 (fun w' hSw => ?_) ?_
  rotate_left
  · obtain ⟨t1, t2, t3⟩ := hSw; obtain ⟨⟨q0, q1, q2, q3, q4, q5, q6, q7, q8, q9, q10⟩, -⟩ := t1.k11; have r0 := t2.c 0 _ rfl; have r1 := t2.c 1 _ rfl; have b0 := t3.c 0 _ rfl; have b1 := t3.c 1 _ rfl; have b2 := t3.c 2 _ rfl
    unfold bareOp; go_simp; try with_reducible rfl
  simp only [Act.put, sZ]
  refine tkL (i := 3) (some 154) (.load 57 (.tmp 30)) 57 [4, 5, 6, 9] (v := ?_) hS0 (fun w' hSw => ?_) ?_
  rotate_left
  · obtain ⟨t1, t2, t3⟩ := hSw; obtain ⟨⟨q0, q1, q2, q3, q4, q5, q6, q7, q8, q9, q10⟩, -⟩ := t1.k11; have r0 := t2.c 0 _ rfl; have r1 := t2.c 1 _ rfl; have b0 := t3.c 0 _ rfl; have b1 := t3.c 1 _ rfl; have b2 := t3.c 2 _ rfl
    unfold bareOp; go_simp; try with_reducible rfl
  simp only [Act.put, sZ]
  refine wpAnyB_cloud0 (fuel := 2) [(0, 151), (4, 155), (5, 150), (6, 156), (7, 157), (8, 38)] [5, 6, 7] (fun y w' => Cl w' w2.heap.size V.cl ∧ Cl w' (w2.heap.size + 1) [.slice R.a R.n R.c, .slice R.b R.m R.d] ∧ Cl w' Bb [.slice Bz.a Bz.n Bz.c, .slice Bz.b Bz.m Bz.d, .slice Bz.e Bz.k Bz.f] ∧ Below w.heap.size w w' ∧ Below w2.heap.size w2 w' ∧ BoIn w' Bz ∧ (∀ v, y 0 = some v → v = .agg #[.int .u64 23, .int .u64 11, .int .u64 4]) ∧ (∀ v, y 4 = some v → v = .tuple #[.agg #[.slice none 0 0, .slice none 0 0, .slice none 0 0], .int .i64 361]) ∧ (∀ v, y 5 = some v → v = .tuple #[.agg #[.slice none 0 0, .slice none 0 0, .slice none 0 0], .int .i64 361]) ∧ (∀ v, y 6 = some v → v = .agg #[.slice none 0 0, .slice none 0 0, .slice none 0 0]) ∧ (∀ v, y 7 = some v → v = .int .i64 361) ∧ (∀ v, y 8 = some v → ∃ B, v = .pointer (some ⟨B, 0, none⟩) ∧ w2.heap.size + 1 < B ∧ Bb < B ∧ Cl w' B [.slice none 0 0, .slice none 0 0, .slice none 0 0])) rfl (by decide) (by decide) (by kernel_rfl) (by kernel_rfl) (by kernel_rfl) (fun _ _ _ _ _ h => h) (fun y w' hI => (⟨hI.1, hI.2.1, hI.2.2.1⟩)) ⟨F_v.o, F_r.o, F_b.o, HBW.o, HB2.o, HZI.o, fun v h => (by cases h), fun v h => (by cases h), fun v h => (by cases h), fun v h => (by cases h), fun v h => (by cases h), fun v h => (by cases h)⟩ ?_ ?_
  · intro p hp y w8 hyn hy hrd hI
    obtain ⟨hv, hr, hb, hbw, hb2, hz, hq0, hq4, hq5, hq6, hq7, hq8⟩ := hI
    simp only [List.mem_cons, List.not_mem_nil, or_false] at hp
    rcases hp with rfl | rfl | rfl | rfl | rfl | rfl
    · refine takeN (by kernel_rfl) (wpOp_bare (some 151) (Op.call { callee := Callee.value (Operand.func 28), args := #[], argTypes := #[] }) 49 ⟨_, rfl, rfl, rfl, rfl, rfl⟩ (fun K hK => ?_))
      refine wp_of_enter (run_call _ _ _ _ 28 Tryd.func28 (vs := #[]) ?hv rfl (by kernel_rfl) (by kernel_rfl)) (small36_any w8) ?_
      case hv =>
       simp only [List.map_toArray, List.map_cons, List.map_nil]
      rintro e w9 ⟨rfl, hb9⟩
      refine ⟨_, rfl, hK.o _ _ ⟨_, rfl, ?_⟩⟩
      refine ⟨hv.keep hb9, hr.keep hb9, hb.keep hb9, hbw.trans (hb9.mono hbw.size), hb2.trans (hb9.mono hb2.size), hz.keep hb9, ?_, ?_, ?_, ?_, ?_, ?_⟩
      · exact fun v hv => (uS hv).symm
      · exact fun v hv => hq4 v (uN hv)
      · exact fun v hv => hq5 v (uN hv)
      · exact fun v hv => hq6 v (uN hv)
      · exact fun v hv => hq7 v (uN hv)
      · intro v hv; have h := hq8 v (uN hv); obtain ⟨B, h1, h2, h3, hL⟩ := h; exact ⟨B, h1, h2, h3, hL.keep hb9⟩
    · refine takeN (by kernel_rfl) (wpOp_bare (some 155) (Op.call { callee := Callee.value (Operand.func 20), args := #[Operand.tmp 151, Operand.const (Value.int IntKind.u64 18), Operand.const (Value.int IntKind.i64 2), Operand.const (Value.bool false), Operand.tmp 152, Operand.tmp 153, Operand.tmp 154], argTypes := #[49, 24, 3, 4, 53, 29, 57] }) 60 ⟨_, rfl, rfl, rfl, rfl, rfl⟩ (fun K hK => ?_))
      obtain ⟨v0, hv0⟩ := depC hy (j := 0) (d := 151) (by simp) hrd rfl (by kernel_rfl)
      obtain rfl := hq0 v0 hv0
      refine wp_of_enter (run_call _ _ _ _ 20 Tryd.func20 (vs := #[.agg #[.int .u64 23, .int .u64 11, .int .u64 4], .int .u64 18, .int .i64 2, .bool false, Bz.v, V.v, R.v]) ?hv rfl (by kernel_rfl) (by kernel_rfl)) (chal_seen w8 (HT2.o.below hb2) hz HZS.o.1 HZS.o.2.1 HZS.o.2.2.1 HZS.o.2.2.2 (HV.o.keep hb2) (HR.o.keep hb2) (by rw [HF.o.vn]; decide) (by rw [HF.o.vm]; decide) (by rw [HF.o.rn]; decide) (by rw [HF.o.rm]; decide) HVP.o) ?_
      case hv =>
       simp only [List.map_toArray, List.map_cons, List.map_nil]
       rw [eval_putC_not _ _ 152 (by decide), eval_putC_not _ _ 153 (by decide), eval_putC_not _ _ 154 (by decide), eval_putC _ _ (j := 0) (d := 151) (by simp) (by decide) hv0 (of_decide_eq_true (by kernel_rfl))]
       rfl
      rintro e w9 ⟨rfl, hb9⟩
      refine ⟨_, rfl, hK.o _ _ ⟨_, rfl, ?_⟩⟩
      refine ⟨hv.keep hb9, hr.keep hb9, hb.keep hb9, hbw.trans (hb9.mono hbw.size), hb2.trans (hb9.mono hb2.size), hz.keep hb9, ?_, ?_, ?_, ?_, ?_, ?_⟩
      · exact fun v hv => hq0 v (uN hv)
      · exact fun v hv => (uS hv).symm
      · exact fun v hv => hq5 v (uN hv)
      · exact fun v hv => hq6 v (uN hv)
      · exact fun v hv => hq7 v (uN hv)
      · intro v hv; have h := hq8 v (uN hv); obtain ⟨B, h1, h2, h3, hL⟩ := h; exact ⟨B, h1, h2, h3, hL.keep hb9⟩
    · refine takeF (by kernel_rfl) ?_
      obtain ⟨v4, hv4⟩ := depC hy (j := 4) (d := 155) (by simp) hrd rfl (by kernel_rfl)
      obtain rfl := hq4 v4 hv4
      refine yields_bare _ _ ⟨_, rfl, rfl, rfl, rfl, rfl⟩ (fun w => run_move _ w _ _ _ (eval_putC _ _ (j := 4) (d := 155) (by simp) (by decide) hv4 (of_decide_eq_true (by kernel_rfl)))) ?_
      refine ⟨hv, hr, hb, hbw, hb2, hz, ?_, ?_, ?_, ?_, ?_, ?_⟩
      · exact fun v hv => hq0 v (uN hv)
      · exact fun v hv => hq4 v (uN hv)
      · exact fun v hv => (uS hv).symm
      · exact fun v hv => hq6 v (uN hv)
      · exact fun v hv => hq7 v (uN hv)
      · exact fun v hv => hq8 v (uN hv)
    · refine takeF (by kernel_rfl) ?_
      obtain ⟨v5, hv5⟩ := depC hy (j := 5) (d := 150) (by simp) hrd rfl (by kernel_rfl)
      obtain rfl := hq5 v5 hv5
      refine yields_bare _ _ ⟨_, rfl, rfl, rfl, rfl, rfl⟩ (fun w => run_extract _ w _ _ _ 0 (eval_putC _ _ (j := 5) (d := 150) (by simp) (by decide) hv5 (of_decide_eq_true (by kernel_rfl))) rfl) ?_
      refine ⟨hv, hr, hb, hbw, hb2, hz, ?_, ?_, ?_, ?_, ?_, ?_⟩
      · exact fun v hv => hq0 v (uN hv)
      · exact fun v hv => hq4 v (uN hv)
      · exact fun v hv => hq5 v (uN hv)
      · exact fun v hv => (uS hv).symm
      · exact fun v hv => hq7 v (uN hv)
      · exact fun v hv => hq8 v (uN hv)
    · refine takeF (by kernel_rfl) ?_
      obtain ⟨v5, hv5⟩ := depC hy (j := 5) (d := 150) (by simp) hrd rfl (by kernel_rfl)
      obtain rfl := hq5 v5 hv5
      refine yields_bare _ _ ⟨_, rfl, rfl, rfl, rfl, rfl⟩ (fun w => run_extract _ w _ _ _ 1 (eval_putC _ _ (j := 5) (d := 150) (by simp) (by decide) hv5 (of_decide_eq_true (by kernel_rfl))) rfl) ?_
      refine ⟨hv, hr, hb, hbw, hb2, hz, ?_, ?_, ?_, ?_, ?_, ?_⟩
      · exact fun v hv => hq0 v (uN hv)
      · exact fun v hv => hq4 v (uN hv)
      · exact fun v hv => hq5 v (uN hv)
      · exact fun v hv => hq6 v (uN hv)
      · exact fun v hv => (uS hv).symm
      · exact fun v hv => hq8 v (uN hv)
    · refine takeN (by kernel_rfl) (wpOp_bare (some 38) (Op.alloc 53) 0 ⟨_, rfl, rfl, rfl, rfl, rfl⟩ (fun K hK => ?_))
      refine wp_of_run (run_al_booth _ _ _ _) (hK.o _ _ ⟨_, rfl, ?_⟩)
      refine ⟨hv.alloc _, hr.alloc _, hb.alloc _, hbw.alloc hbw.size _, hb2.alloc hb2.size _, hz.alloc _, ?_, ?_, ?_, ?_, ?_, ?_⟩
      · exact fun v hv => hq0 v (uN hv)
      · exact fun v hv => hq4 v (uN hv)
      · exact fun v hv => hq5 v (uN hv)
      · exact fun v hv => hq6 v (uN hv)
      · exact fun v hv => hq7 v (uN hv)
      · intro v hv; rw [updC_same] at hv; cases hv; exact ⟨w8.heap.size, rfl, hr.lt, hb.lt, Cl.at w8 [.slice none 0 0, .slice none 0 0, .slice none 0 0] _ _ rfl⟩
  intro y w9 hall hI
  obtain ⟨hv, hr, hb, hbw, hb2, hz, hq0, hq4, hq5, hq6, hq7, hq8⟩ := hI
  obtain ⟨v0, hv0⟩ := Option.isSome_iff_exists.1 (hall (0, 151) (by simp))
  obtain ⟨v4, hv4⟩ := Option.isSome_iff_exists.1 (hall (4, 155) (by simp))
  obtain ⟨v5, hv5⟩ := Option.isSome_iff_exists.1 (hall (5, 150) (by simp))
  obtain ⟨v6, hv6⟩ := Option.isSome_iff_exists.1 (hall (6, 156) (by simp))
  obtain ⟨v7, hv7⟩ := Option.isSome_iff_exists.1 (hall (7, 157) (by simp))
  obtain ⟨v8, hv8⟩ := Option.isSome_iff_exists.1 (hall (8, 38) (by simp))
  clear hall
  obtain rfl := hq0 v0 hv0
  obtain rfl := hq4 v4 hv4
  obtain rfl := hq5 v5 hv5
  obtain rfl := hq6 v6 hv6
  obtain rfl := hq7 v7 hv7
  obtain ⟨Bc, rfl, hltb, hltc, hLb⟩ := hq8 v8 hv8
  replace F_v := Lh hv
  replace F_r := Lh hr
  replace F_b := Lh hb
  have F_n := Lh hLb
  replace HBW := Lh hbw
  replace HB2 := Lh hb2
  have hS0 := (And.intro hv (And.intro hr hb))
  clear hv hr hb hbw hb2 hq0 hq4 hq5 hq6 hq7 hq8 hLb hz
  simp only [putC, setAll, Act.put, sZ, Option.getD_some, hv0, hv4, hv5, hv6, hv7, hv8]
  clear hv0 hv4 hv5 hv6 hv7 hv8
  refine onl (i := 9) none (.store 53 (.tmp 38) (.tmp 156)) 0 (fun K hK => ?_)
  unfold bareOp
  refine wp_storeCl 53 (.tmp 38) (.tmp 156) Bc 0 [.slice none 0 0, .slice none 0 0, .slice none 0 0] [.slice none 0 0, .slice none 0 0, .slice none 0 0] [.slice none 0 0, .slice none 0 0, .slice none 0 0] rfl rfl rfl (by kernel_rfl) (by intro u hu; simp at hu; rcases hu with rfl | rfl | rfl <;> rfl) F_n.o (by simp) rfl ?_
  intro w5 hca hga hza
  have hb2s := HB2.o.size
  have hbws := HBW.o.size
  have hw22 := HW2.o
  replace F_n := Lh hca
  replace F_v := Lh (F_v.o.gro hga (by omega))
  replace F_r := Lh (F_r.o.gro hga (by omega))
  replace F_b := Lh (F_b.o.gro hga (by omega))
  replace HBW := Lh (HBW.o.trans (hga.blw (n := w.heap.size) (by omega) hbws))
  replace HB2 := Lh (HB2.o.trans (hga.blw (n := w2.heap.size) (by omega) hb2s))
  clear hca hga hza hS0 hb2s hbws
  refine hK.o _ _ lt8 ?_
  clear hK K
  try simp only [Act.put, sZ]
  refine tkP (i := 10) (some 39) (.assign (.tmp 157)) 32 (v := ?_) lt8 (fun w => ?_) ?_
  rotate_left; · unfold bareOp; go_simp; try with_reducible rfl
  simp only [Act.put, sZ]
  refine wpAnyB_done (by kernel_rfl) ?_ _
  go_wp2_with fail
  clear F_n F_b HZI HZS
  replace F_v := Lh F_v.o.drew
  replace F_r := Lh F_r.o.drew
  replace HBW := Lh HBW.o.drew
  replace HB2 := Lh HB2.o.drew
  have hS0 := (And.intro F_v.o F_r.o)
  refine wp_region_stage 12 (fun w' => Cl w' w2.heap.size V.cl ∧ Cl w' (w2.heap.size + 1) [.slice R.a R.n R.c, .slice R.b R.m R.d]) (by kernel_rfl) ?_
  refine tkP (i := 1) (some 160) (.build 53 #[]) 53 (v := ?_) (fun _ => hS0) (fun w => ?_) ?_
  rotate_left; · unfold bareOp; go_simp; try with_reducible rfl
  simp only [Act.put, sZ]
  refine tkL (i := 2) (some 161) (.load 29 (.tmp 29)) 29 [7, 8, 9, 12] (v := ?_) hS0 (fun w' hSw => ?_) ?_
  rotate_left
  · obtain ⟨t1, t2⟩ := hSw; obtain ⟨⟨q0, q1, q2, q3, q4, q5, q6, q7, q8, q9, q10⟩, -⟩ := t1.k11; have r0 := t2.c 0 _ rfl; have r1 := t2.c 1 _ rfl
    unfold bareOp; go_simp; try with_reducible rfl
  simp only [Act.put, sZ]
  refine tkP (i := 4) (some 163) (.fieldAddr 57 (.tmp 30) 1) 0 (v := ?_) (fun _ => hS0) (fun w => ?_) ?_
  rotate_left; · unfold bareOp; go_simp; try with_reducible rfl
  simp only [Act.put, sZ]
  refine tkL (i := 5) (some 164) (.load 55 (.tmp 163)) 55 [6, 7, 8, 9, 12] (v := ?_) hS0 (fun w' hSw => ?_) ?_
  rotate_left
  · obtain ⟨t1, t2⟩ := hSw; obtain ⟨⟨q0, q1, q2, q3, q4, q5, q6, q7, q8, q9, q10⟩, -⟩ := t1.k11; have r0 := t2.c 0 _ rfl; have r1 := t2.c 1 _ rfl
    unfold bareOp; go_simp; try with_reducible rfl
  simp only [Act.put, sZ]
  refine wpAnyB_cloud0 (fuel := 2) [(0, 159), (3, 162), (6, 165), (7, 166), (8, 158), (9, 167), (10, 168), (11, 40)] [6, 8, 9, 10] (fun y w' => Cl w' w2.heap.size V.cl ∧ Cl w' (w2.heap.size + 1) [.slice R.a R.n R.c, .slice R.b R.m R.d] ∧ Below w.heap.size w w' ∧ Below w2.heap.size w2 w' ∧ (∀ v, y 0 = some v → v = .agg #[.int .u64 23, .int .u64 11, .int .u64 4]) ∧ (∀ v, y 3 = some v → ∃ b, v = .slice (some ⟨b, 0, none⟩) 1 1 ∧ ShI .i64 w' (some ⟨b, 0, none⟩) 1 [0]) ∧ (∀ v, y 6 = some v → ∃ b, v = .agg #[.slice (some ⟨b, 0, none⟩) 1 1, .slice R.b R.m R.d] ∧ ShI .i64 w' (some ⟨b, 0, none⟩) 1 [0]) ∧ (∀ v, y 7 = some v → v = .tuple #[.agg #[.slice none 0 0, .slice none 0 0, .slice none 0 0], .int .i64 362]) ∧ (∀ v, y 8 = some v → v = .tuple #[.agg #[.slice none 0 0, .slice none 0 0, .slice none 0 0], .int .i64 362]) ∧ (∀ v, y 9 = some v → v = .agg #[.slice none 0 0, .slice none 0 0, .slice none 0 0]) ∧ (∀ v, y 10 = some v → v = .int .i64 362) ∧ (∀ v, y 11 = some v → ∃ B, v = .pointer (some ⟨B, 0, none⟩) ∧ w2.heap.size + 1 < B ∧  Cl w' B [.slice none 0 0, .slice none 0 0, .slice none 0 0])) rfl (by decide) (by decide) (by kernel_rfl) (by kernel_rfl) (by kernel_rfl) (fun _ _ _ _ _ h => h) (fun y w' hI => (⟨hI.1, hI.2.1⟩)) ⟨F_v.o, F_r.o, HBW.o, HB2.o, fun v h => (by cases h), fun v h => (by cases h), fun v h => (by cases h), fun v h => (by cases h), fun v h => (by cases h), fun v h => (by cases h), fun v h => (by cases h), fun v h => (by cases h)⟩ ?_ ?_
  · intro p hp y w8 hyn hy hrd hI
    obtain ⟨hv, hr, hbw, hb2, hq0, hq3, hq6, hq7, hq8, hq9, hq10, hq11⟩ := hI
    simp only [List.mem_cons, List.not_mem_nil, or_false] at hp
    rcases hp with rfl | rfl | rfl | rfl | rfl | rfl | rfl | rfl
    · refine takeN (by kernel_rfl) (wpOp_bare (some 159) (Op.call { callee := Callee.value (Operand.func 28), args := #[], argTypes := #[] }) 49 ⟨_, rfl, rfl, rfl, rfl, rfl⟩ (fun K hK => ?_))
      refine wp_of_enter (run_call _ _ _ _ 28 Tryd.func28 (vs := #[]) ?hv rfl (by kernel_rfl) (by kernel_rfl)) (small36_any w8) ?_
      case hv =>
       simp only [List.map_toArray, List.map_cons, List.map_nil]
      rintro e w9 ⟨rfl, hb9⟩
      refine ⟨_, rfl, hK.o _ _ ⟨_, rfl, ?_⟩⟩
      refine ⟨hv.keep hb9, hr.keep hb9, hbw.trans (hb9.mono hbw.size), hb2.trans (hb9.mono hb2.size), ?_, ?_, ?_, ?_, ?_, ?_, ?_, ?_⟩
      · exact fun v hv => (uS hv).symm
      · intro v hv; have h := hq3 v (uN hv); obtain ⟨b, g1, g2⟩ := h; exact ⟨b, g1, g2.keep hb9⟩
      · intro v hv; have h := hq6 v (uN hv); obtain ⟨b, g1, g2⟩ := h; exact ⟨b, g1, g2.keep hb9⟩
      · exact fun v hv => hq7 v (uN hv)
      · exact fun v hv => hq8 v (uN hv)
      · exact fun v hv => hq9 v (uN hv)
      · exact fun v hv => hq10 v (uN hv)
      · intro v hv; have h := hq11 v (uN hv); obtain ⟨B, h1, h2, hL⟩ := h; exact ⟨B, h1, h2, hL.keep hb9⟩
    · refine takeN (by kernel_rfl) (wpOp_bare (some 162) (Op.buildSlice 54 1 #[(0, Operand.const (Value.int IntKind.i64 0))]) 54 ⟨_, rfl, rfl, rfl, rfl, rfl⟩ (fun K hK => ?_))
      refine wp_of_run (run_lit_int0 _ _ _ _ _ rfl) (hK.o _ _ ⟨_, rfl, ?_⟩)
      refine ⟨hv.alloc _, hr.alloc _, hbw.alloc hbw.size _, hb2.alloc hb2.size _, ?_, ?_, ?_, ?_, ?_, ?_, ?_, ?_⟩
      · exact fun v hv => hq0 v (uN hv)
      · intro v hv; rw [updC_same] at hv; cases hv; exact ⟨w8.heap.size, rfl, ShI.lit1 .i64 w8 0 3 _ rfl⟩
      · intro v hv; have h := hq6 v (uN hv); obtain ⟨b, g1, g2⟩ := h; exact ⟨b, g1, g2.keep ((Below.refl _ _).alloc (Nat.le_refl _) _)⟩
      · exact fun v hv => hq7 v (uN hv)
      · exact fun v hv => hq8 v (uN hv)
      · exact fun v hv => hq9 v (uN hv)
      · exact fun v hv => hq10 v (uN hv)
      · intro v hv; have h := hq11 v (uN hv); obtain ⟨B, h1, h2, hL⟩ := h; exact ⟨B, h1, h2, hL.alloc _⟩
    · refine takeF (by kernel_rfl) ?_
      obtain ⟨v3, hv3⟩ := depC hy (j := 3) (d := 162) (by simp) hrd rfl (by kernel_rfl)
      obtain ⟨b, rfl, g2⟩ := hq3 v3 hv3
      refine yields_bare _ _ ⟨_, rfl, rfl, rfl, rfl, rfl⟩ (fun w => run_bd_rev _ w _ _ _ _ (eval_putC _ _ (j := 3) (d := 162) (by simp) (by decide) hv3 (of_decide_eq_true (by kernel_rfl))) ((eval_putC_not _ _ 164 (by decide)).trans rfl)) ?_
      refine ⟨hv, hr, hbw, hb2, ?_, ?_, ?_, ?_, ?_, ?_, ?_, ?_⟩
      · exact fun v hv => hq0 v (uN hv)
      · exact fun v hv => hq3 v (uN hv)
      · intro v hv; rw [updC_same] at hv; cases hv; exact ⟨b, rfl, g2⟩
      · exact fun v hv => hq7 v (uN hv)
      · exact fun v hv => hq8 v (uN hv)
      · exact fun v hv => hq9 v (uN hv)
      · exact fun v hv => hq10 v (uN hv)
      · exact fun v hv => hq11 v (uN hv)
    · refine takeN (by kernel_rfl) (wpOp_bare (some 166) (Op.call { callee := Callee.value (Operand.func 20), args := #[Operand.tmp 159, Operand.const (Value.int IntKind.u64 18), Operand.const (Value.int IntKind.i64 2), Operand.const (Value.bool false), Operand.tmp 160, Operand.tmp 161, Operand.tmp 165], argTypes := #[49, 24, 3, 4, 53, 29, 57] }) 60 ⟨_, rfl, rfl, rfl, rfl, rfl⟩ (fun K hK => ?_))
      obtain ⟨v0, hv0⟩ := depC hy (j := 0) (d := 159) (by simp) hrd rfl (by kernel_rfl)
      obtain rfl := hq0 v0 hv0
      obtain ⟨v6, hv6⟩ := depC hy (j := 6) (d := 165) (by simp) hrd rfl (by kernel_rfl)
      obtain ⟨b2, rfl, hc2⟩ := hq6 v6 hv6
      refine wp_of_enter (run_call _ _ _ _ 20 Tryd.func20 (vs := #[.agg #[.int .u64 23, .int .u64 11, .int .u64 4], .int .u64 18, .int .i64 2, .bool false, .agg #[.slice none 0 0, .slice none 0 0, .slice none 0 0], V.v, .agg #[.slice (some ⟨b2, 0, none⟩) 1 1, .slice R.b R.m R.d]]) ?hv rfl (by kernel_rfl) (by kernel_rfl)) (chal_no (R := ⟨some ⟨b2, 0, none⟩, 1, 1, [0], R.b, R.m, R.d, R.ns⟩) w8 (HT2.o.below hb2) (HV.o.keep hb2) ⟨hc2, (by intro x hx; simp at hx; omega), (by intro h; cases h), (HR.o.keep hb2).h2, (HR.o.keep hb2).u2, (HR.o.keep hb2).k2⟩ (by rw [HF.o.vn]; decide) (by rw [HF.o.vm]; decide) (show 1 ≤ 1000 by decide) (by show R.m ≤ 1000; rw [HF.o.rm]; decide) HVP.o (not_match w8 (HR.o.keep hb2) HF.o.rms HRG.o HMT.o)) ?_
      case hv =>
       simp only [List.map_toArray, List.map_cons, List.map_nil]
       rw [eval_putC_not _ _ 160 (by decide), eval_putC_not _ _ 161 (by decide), eval_putC _ _ (j := 0) (d := 159) (by simp) (by decide) hv0 (of_decide_eq_true (by kernel_rfl)), eval_putC _ _ (j := 6) (d := 165) (by simp) (by decide) hv6 (of_decide_eq_true (by kernel_rfl))]
       rfl
      rintro e w9 ⟨rfl, hb9⟩
      refine ⟨_, rfl, hK.o _ _ ⟨_, rfl, ?_⟩⟩
      refine ⟨hv.keep hb9, hr.keep hb9, hbw.trans (hb9.mono hbw.size), hb2.trans (hb9.mono hb2.size), ?_, ?_, ?_, ?_, ?_, ?_, ?_, ?_⟩
      · exact fun v hv => hq0 v (uN hv)
      · intro v hv; have h := hq3 v (uN hv); obtain ⟨b, g1, g2⟩ := h; exact ⟨b, g1, g2.keep hb9⟩
      · intro v hv; have h := hq6 v (uN hv); obtain ⟨b, g1, g2⟩ := h; exact ⟨b, g1, g2.keep hb9⟩
      · exact fun v hv => (uS hv).symm
      · exact fun v hv => hq8 v (uN hv)
      · exact fun v hv => hq9 v (uN hv)
      · exact fun v hv => hq10 v (uN hv)
      · intro v hv; have h := hq11 v (uN hv); obtain ⟨B, h1, h2, hL⟩ := h; exact ⟨B, h1, h2, hL.keep hb9⟩
    · refine takeF (by kernel_rfl) ?_
      obtain ⟨v7, hv7⟩ := depC hy (j := 7) (d := 166) (by simp) hrd rfl (by kernel_rfl)
      obtain rfl := hq7 v7 hv7
      refine yields_bare _ _ ⟨_, rfl, rfl, rfl, rfl, rfl⟩ (fun w => run_move _ w _ _ _ (eval_putC _ _ (j := 7) (d := 166) (by simp) (by decide) hv7 (of_decide_eq_true (by kernel_rfl)))) ?_
      refine ⟨hv, hr, hbw, hb2, ?_, ?_, ?_, ?_, ?_, ?_, ?_, ?_⟩
      · exact fun v hv => hq0 v (uN hv)
      · exact fun v hv => hq3 v (uN hv)
      · exact fun v hv => hq6 v (uN hv)
      · exact fun v hv => hq7 v (uN hv)
      · exact fun v hv => (uS hv).symm
      · exact fun v hv => hq9 v (uN hv)
      · exact fun v hv => hq10 v (uN hv)
      · exact fun v hv => hq11 v (uN hv)
    · refine takeF (by kernel_rfl) ?_
      obtain ⟨v8, hv8⟩ := depC hy (j := 8) (d := 158) (by simp) hrd rfl (by kernel_rfl)
      obtain rfl := hq8 v8 hv8
      refine yields_bare _ _ ⟨_, rfl, rfl, rfl, rfl, rfl⟩ (fun w => run_extract _ w _ _ _ 0 (eval_putC _ _ (j := 8) (d := 158) (by simp) (by decide) hv8 (of_decide_eq_true (by kernel_rfl))) rfl) ?_
      refine ⟨hv, hr, hbw, hb2, ?_, ?_, ?_, ?_, ?_, ?_, ?_, ?_⟩
      · exact fun v hv => hq0 v (uN hv)
      · exact fun v hv => hq3 v (uN hv)
      · exact fun v hv => hq6 v (uN hv)
      · exact fun v hv => hq7 v (uN hv)
      · exact fun v hv => hq8 v (uN hv)
      · exact fun v hv => (uS hv).symm
      · exact fun v hv => hq10 v (uN hv)
      · exact fun v hv => hq11 v (uN hv)
    · refine takeF (by kernel_rfl) ?_
      obtain ⟨v8, hv8⟩ := depC hy (j := 8) (d := 158) (by simp) hrd rfl (by kernel_rfl)
      obtain rfl := hq8 v8 hv8
      refine yields_bare _ _ ⟨_, rfl, rfl, rfl, rfl, rfl⟩ (fun w => run_extract _ w _ _ _ 1 (eval_putC _ _ (j := 8) (d := 158) (by simp) (by decide) hv8 (of_decide_eq_true (by kernel_rfl))) rfl) ?_
      refine ⟨hv, hr, hbw, hb2, ?_, ?_, ?_, ?_, ?_, ?_, ?_, ?_⟩
      · exact fun v hv => hq0 v (uN hv)
      · exact fun v hv => hq3 v (uN hv)
      · exact fun v hv => hq6 v (uN hv)
      · exact fun v hv => hq7 v (uN hv)
      · exact fun v hv => hq8 v (uN hv)
      · exact fun v hv => hq9 v (uN hv)
      · exact fun v hv => (uS hv).symm
      · exact fun v hv => hq11 v (uN hv)
    · refine takeN (by kernel_rfl) (wpOp_bare (some 40) (Op.alloc 53) 0 ⟨_, rfl, rfl, rfl, rfl, rfl⟩ (fun K hK => ?_))
      refine wp_of_run (run_al_booth _ _ _ _) (hK.o _ _ ⟨_, rfl, ?_⟩)
      refine ⟨hv.alloc _, hr.alloc _, hbw.alloc hbw.size _, hb2.alloc hb2.size _, ?_, ?_, ?_, ?_, ?_, ?_, ?_, ?_⟩
      · exact fun v hv => hq0 v (uN hv)
      · intro v hv; have h := hq3 v (uN hv); obtain ⟨b, g1, g2⟩ := h; exact ⟨b, g1, g2.keep ((Below.refl _ _).alloc (Nat.le_refl _) _)⟩
      · intro v hv; have h := hq6 v (uN hv); obtain ⟨b, g1, g2⟩ := h; exact ⟨b, g1, g2.keep ((Below.refl _ _).alloc (Nat.le_refl _) _)⟩
      · exact fun v hv => hq7 v (uN hv)
      · exact fun v hv => hq8 v (uN hv)
      · exact fun v hv => hq9 v (uN hv)
      · exact fun v hv => hq10 v (uN hv)
      · intro v hv; rw [updC_same] at hv; cases hv; exact ⟨w8.heap.size, rfl, hr.lt,  Cl.at w8 [.slice none 0 0, .slice none 0 0, .slice none 0 0] _ _ rfl⟩
  intro y w9 hall hI
  obtain ⟨hv, hr, hbw, hb2, hq0, hq3, hq6, hq7, hq8, hq9, hq10, hq11⟩ := hI
  obtain ⟨v0, hv0⟩ := Option.isSome_iff_exists.1 (hall (0, 159) (by simp))
  obtain ⟨v3, hv3⟩ := Option.isSome_iff_exists.1 (hall (3, 162) (by simp))
  obtain ⟨v6, hv6⟩ := Option.isSome_iff_exists.1 (hall (6, 165) (by simp))
  obtain ⟨v7, hv7⟩ := Option.isSome_iff_exists.1 (hall (7, 166) (by simp))
  obtain ⟨v8, hv8⟩ := Option.isSome_iff_exists.1 (hall (8, 158) (by simp))
  obtain ⟨v9, hv9⟩ := Option.isSome_iff_exists.1 (hall (9, 167) (by simp))
  obtain ⟨v10, hv10⟩ := Option.isSome_iff_exists.1 (hall (10, 168) (by simp))
  obtain ⟨v11, hv11⟩ := Option.isSome_iff_exists.1 (hall (11, 40) (by simp))
  clear hall
  obtain rfl := hq0 v0 hv0
  obtain rfl := hq7 v7 hv7
  obtain rfl := hq8 v8 hv8
  obtain rfl := hq9 v9 hv9
  obtain rfl := hq10 v10 hv10
  obtain ⟨Bb, rfl, hltb, hLb⟩ := hq11 v11 hv11
  obtain ⟨b1, rfl, -⟩ := hq3 v3 hv3
  obtain ⟨b2, rfl, -⟩ := hq6 v6 hv6
  replace F_v := Lh hv
  replace F_r := Lh hr
  have F_n := Lh hLb
  replace HBW := Lh hbw
  replace HB2 := Lh hb2
  have hS0 := (And.intro hv hr)
  clear hv hr hbw hb2 hq0 hq3 hq6 hq7 hq8 hq9 hq10 hq11 hLb
  simp only [putC, setAll, Act.put, sZ, Option.getD_some, hv0, hv3, hv6, hv7, hv8, hv9, hv10, hv11]
  clear hv0 hv3 hv6 hv7 hv8 hv9 hv10 hv11
  refine onl (i := 12) none (.store 53 (.tmp 40) (.tmp 167)) 0 (fun K hK => ?_)
  unfold bareOp
  refine wp_storeCl 53 (.tmp 40) (.tmp 167) Bb 0 [.slice none 0 0, .slice none 0 0, .slice none 0 0] [.slice none 0 0, .slice none 0 0, .slice none 0 0] [.slice none 0 0, .slice none 0 0, .slice none 0 0] rfl rfl rfl (by kernel_rfl) (by intro u hu; simp at hu; rcases hu with rfl | rfl | rfl <;> rfl) F_n.o (by simp) rfl ?_
  intro w5 hca hga hza
  have hb2s := HB2.o.size
  have hbws := HBW.o.size
  have hw22 := HW2.o
  replace F_n := Lh hca
  replace F_v := Lh (F_v.o.gro hga (by omega))
  replace F_r := Lh (F_r.o.gro hga (by omega))
  replace HBW := Lh (HBW.o.trans (hga.blw (n := w.heap.size) (by omega) hbws))
  replace HB2 := Lh (HB2.o.trans (hga.blw (n := w2.heap.size) (by omega) hb2s))
  clear hca hga hza hS0 hb2s hbws
  refine hK.o _ _ lt8 ?_
  clear hK K
  try simp only [Act.put, sZ]
  refine tkP (i := 13) (some 41) (.assign (.tmp 168)) 32 (v := ?_) lt8 (fun w => ?_) ?_
  rotate_left; · unfold bareOp; go_simp; try with_reducible rfl
  simp only [Act.put, sZ]
  refine wpAnyB_done (by kernel_rfl) ?_ _
  go_wp2_with fail
  have HX5 := Lh (HX.o.keep HB2.o)
  have HT5 := Lh (HT2.o.below HB2.o)
  clear HX HT2 HB2 F_v F_r F_n HV HR HF HVP HNG HRG HMT HW2
  go_loopw [42, 43] (fun c42 c43 wr => ∃ i : Nat, i ≤ 67 ∧ c42 = .bool true ∧ c43 = .int .i64 i ∧ Hid (Below w.heap.size w wr) ∧ Hid (ShI .u8 wr ax 67 zero67) ∧ Hid (Tabs wr)) (fun _ c43 _ => 67 - (intOf c43).toNat)
  case atStart => exact ⟨0, by omega, rfl, rfl, HBW.o, HX5.o, HT5.o⟩
  case round =>
   clear HBW HX5 HT5
   obtain ⟨i, hi, rfl, rfl, HBW, HX, HTr⟩ := hrel
   have hwi : IntKind.i64.wrap ((i : Int) + 1) = (i : Int) + 1 := IntWalk.i64_in _ (by omega)
   have hi0 : (0 : Int) ≤ (i : Int) := by omega
   by_cases hlt : i < 67
   case pos =>
    have hd : decide ((i : Int) < 67) = true := decide_eq_true (by omega)
    have hi2 : (i : Int) < 67 := by omega
    obtain ⟨s, o, rfl, hcell⟩ : ∃ s o, ax = some ⟨s, o, none⟩ ∧ wr.cell? ⟨s, o + i, none⟩ = some (.int .u8 0) := by
     rcases HX.o with ⟨h1, -⟩ | ⟨s, o, h0, h1, h2, h3⟩
     · cases h1
     · refine ⟨s, o, h0, ?_⟩
       have := h3 i (by simp [zero67]; omega)
       rw [z67] at this
       exact this
    go_wp2_with fail
    go_roundw
    case rel => exact ⟨i + 1, by omega, rfl, by go_num, HBW.o, HX.o, HTr.o⟩
    case measure => simp [intOf] <;> omega
   case neg =>
    have hd : decide ((i : Int) < 67) = false := decide_eq_false (by omega)
    have hd' : ¬ ((i : Int) < 67) := by omega
    go_wp2_with fail
    refine Calls.via (w0 := wr) (by repeat (first | exact Below.refl _ _ | refine BW.alloc ?_ _ | refine BW.drew ?_)) (fun hb => alive_any _ (HTr.o.below hb)) ?_
    rintro e w9 rfl hb
    replace HBW := Lh (HBW.o.trans (hb.mono HBW.o.size))
    clear hb
    go_wp2_with fail
    go_ret
    exact ⟨rfl, HBW.o⟩
theorem lifted (os : Os) (started : os.Started) (H : Type) (enc : TypeId × Value → H) :
    ReturnsInHanded {} Tryd.checked os 7 .any (fun w args => (Rows.boothNamesSpec.pre enc Tryd.prog Tryd.f7 [] false w args ∧ laidMetH Tryd.prog laidL w) ∧ sizedMet enc Tryd.prog Tryd.f7 (OpenSpec.ofChange Rows.boothNamesSpec) false w args) (Rows.boothNamesSpec.post enc Tryd.prog Tryd.f7 false true false false) := by
  refine returnsInHanded_of_change_and (C := Tryd.checked) (X := fun w _ => laidMetH Tryd.prog laidL w) (fun _ _ _ hh h => h.of_heap hh) own started (by kernel_rfl) Tryd.func7
    (ChangeSpec.witness_shaped (enc := enc) (C := Tryd.checked) (os := os) (X := fun w _ => laidMetH Tryd.prog laidL w) false (World.doorLaid Tryd.prog 19 os) #[] 8 rfl (World.shaped_of_RefB (by kernel_rfl) (by kernel_rfl)) (by kernel_rfl) (by kernel_rfl) (by kernel_rfl) (door_met os _)) ?_
  intro W base args ds gs before hval0 hW _ _ hL _
  have hT := tabs_of_laid hL
  clear hL
  have hval : ∀ (j : Nat) t v, Tryd.f7.params[j]? = some t → args[j]? = some v → Value.okWide Tryd.prog W .any base t v := hval0
  have hW' := hW
  obtain ⟨p, q, hA0, hV, rfl, hfz, hnd⟩ := hW
  have hA : DataW.TrodAll enc Tryd.prog W 0 (fun _ => true) true Tryd.f7.params.toList args.toList ds p := hA0
  rw [Tryd.params7] at hA hval
  have hK := hA
  obtain ⟨hargs, rfl, rfl⟩ := trodAll_nil hA
  obtain rfl : args = #[] := by cases args; simp_all
  obtain ⟨rfl, rfl⟩ := trodVars_none hV
  clear hA0 hval0
  refine (walk  W  hT).mono fun e W' ⟨he, bel⟩ => ?_
  subst he
  exact ⟨_, rfl, _, _, _, [], _, [], hW', trodAll_mk1 (shut_bool Tryd.underlying4 _), trodAll_stays laidOut (by kernel_rfl) hK bel, rfl, bel.frame _, fun h => by cases h⟩
theorem over : Rows.boothNamesRow.holds Tryd.pinned (OpenSpec.ofChange Rows.boothNamesSpec) :=
  OpenClaim.holds_of_wide 7 Tryd.f7 rfl rfl rfl rfl rfl rfl rfl ⟨rfl, rfl, rfl, rfl, rfl⟩ rfl rfl rfl rfl rfl (by kernel_rfl) Tryd.func7 (by kernel_rfl)
    (of_decide_eq_true (by kernel_rfl)) (by unfold Func.isWrapper; first | (rw [if_pos (by decide +kernel)]; kernel_rfl) | (rw [if_neg (by decide +kernel)]; exact ⟨rfl, rfl⟩))
    (fun os started H enc _ => lifted os started H enc)
theorem proved : Rows.BoothNamesCardSaid :=
  Claim7.holds_tied_plain_at .later [] [.data, .data] true (true, "5c00805133dfe0492bef048290696ebc112b228b3b9245def032e3bbb51dd56e") false
    over (fun _ h => by cases h) (by kernel_rfl) (fun _ h => by cases h) boothNames_row_tie rfl ⟨rfl, rfl⟩ (by kernel_rfl) rfl
    (fun f fn hf hfn => by
      obtain rfl : f = 7 := Option.some.inj ((show Tryd.prog.funcNamed "suffrage/suffragelaw36.BoothNames" = some 7 by kernel_rfl).symm.trans hf) |>.symm
      obtain rfl : fn = Tryd.f7 := (Option.some.inj (Tryd.func7.symm.trans hfn)).symm
      exact ⟨by kernel_rfl, fun j t ht => by
       rw [Tryd.params7] at ht
       have hm : t ∈ ([] : List TypeId) := by simpa using Array.mem_of_getElem? ht
       have hall : (([] : List TypeId).all fun u => !Tryd.prog.wantsStandIn u) = true := by kernel_rfl
       exact (show Tryd.prog.wantsStandIn t = false by simpa using List.all_eq_true.1 hall t hm)⟩)
    (by kernel_rfl)
#print axioms proved
end Go.Proofs.YtlbldpkgnonbpaaDoor.lawNames
