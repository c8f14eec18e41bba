/- What is known of a sealed vote; the examples' seeds. -/
import Derived.Test.YtlbldpkgnonbpaaDoorOz1
import Derived.Test.YtlbldpkgnonbpaaDoorOz4
import Derived.Test.YtlbldpkgnonbpaaDoorOzY
import Derived.Test.YtlbldpkgnonbpaaDoorOzZ
set_option linter.unusedSimpArgs false
set_option linter.unusedVariables false
set_option maxRecDepth 100000
namespace Go.Proofs.YtlbldpkgnonbpaaDoor
open Go Go.RowKit Num Sha
structure Sealed2 (P Q G y : Int) (n : Nat) (ms : List Int) (one : Bool) (V : Vt) (R : Rv) : Prop where
  vn : V.n = n
  vm : V.m = n
  vo : V.one = one
  rn : R.n = ms.length
  rms : R.ms = ms
  rm : R.m = n
  good : Grp P Q G → Mem P Q y → validP P Q G y n V ∧ rangeP Q n R ∧ matchP P G y n V R
theorem SealR.cases {w w' : World} {P Q G y n : Int} {ms seed : List Int} {one : Bool} {e : Ending} (h : SealR w P Q G y n ms one seed e w') : Below w.heap.size w w' ∧
    ((∃ er : Int, er ≠ 0 ∧ e = .returned (.tuple #[.agg #[.slice none 0 0, .slice none 0 0, .bool false, .int .u64 0, .int .u64 0, .int .u64 0, .int .u64 0, .int .u64 0, .int .u64 0, .int .u64 0, .int .u64 0], .agg #[.slice none 0 0, .slice none 0 0], .int .i64 er]) ∧ (sealE P Q G y n ms one = 0 → sampS seed Q (manyS n one) = none ∧ er = 6) ∧ (sealE P Q G y n ms one ≠ 0 → er = sealE P Q G y n ms one)) ∨
     (sealE P Q G y n ms one = 0 ∧ ∃ V R, e = .returned (.tuple #[V.v, R.v, .int .i64 0]) ∧ VtIn w' V ∧ RvIn w' R ∧ Sealed2 P Q G y n.toNat ms one V R)) := by
  obtain ⟨hb, ⟨h1, h2⟩ | ⟨h1, ⟨h2, h3⟩ | ⟨d, V, R, h2, h3, h4, h5, h6⟩⟩⟩ := h
  · exact ⟨hb, .inl ⟨_, h1, h2, fun h => absurd h h1, fun _ => rfl⟩⟩
  · exact ⟨hb, .inl ⟨6, by decide, h3, fun _ => ⟨h2, rfl⟩, fun h => absurd h1 h⟩⟩
  · refine ⟨hb, .inr ⟨h1, V, R, h3, h5, h6, h4.en, h4.em, h4.eo, h4.ern, h4.erms, h4.erm, fun g hy => ?_⟩⟩
    have hk : chkB P Q G y n = 0 := by
     unfold sealE at h1
     split at h1
     · next h => exact absurd h1 h
     · next h => exact Classical.not_not.1 h
    have hmk : markedS n ms = true ∧ (one = true → ms.length ≤ 1) := by
     unfold sealE at h1
     rw [if_neg (by simpa using hk)] at h1
     split at h1
     · assumption
     · cases h1
    obtain ⟨hH, -, h11, h10⟩ := chkB_ok hk
    have hQ : 0 < Q := by obtain ⟨p5, p3, hQ, pq, g2, gP⟩ := hH; omega
    exact seal_good g hH hy (by rw [show ((n.toNat : Nat) : Int) = n by omega]; exact hmk.1) hmk.2 (sampS_d hQ h2) h4
def seedZ (x : Int) : List Int := [x, 0, 0, 0, 0, 0, 0, 0, 0, 0, 0, 0, 0, 0, 0, 0, 0, 0, 0, 0, 0, 0, 0, 0, 0, 0, 0, 0, 0, 0, 0, 0]
theorem seedZ_bytes {x : Int} (h : 0 ≤ x ∧ x < 256) : ByteL (seedZ x) := by
 intro b hb
 simp only [seedZ, List.mem_cons, List.not_mem_nil, or_false] at hb
 rcases hb with rfl | rfl | rfl | rfl | rfl | rfl | rfl | rfl | rfl | rfl | rfl | rfl | rfl | rfl | rfl | rfl | rfl | rfl | rfl | rfl | rfl | rfl | rfl | rfl | rfl | rfl | rfl | rfl | rfl | rfl | rfl | rfl <;> first | exact h | decide
theorem chk_s : chkB 23 11 4 18 2 = 0 := by unfold chkB; rw [if_neg (Classical.not_not.2 has_small), if_neg (by omega)]
theorem sealE_7 : sealE 23 11 4 18 2 [1] true = 0 := by rw [sealE, if_neg (by rw [chk_s]; simp), if_pos ⟨by decide, by decide⟩]
theorem grp_s : Grp 23 11 4 := valid_small.grp
theorem mem_s : Mem 23 11 18 := ⟨by decide, by decide, powm_nat 18 11 23 1 (by decide)⟩
theorem seal7 {w w' : World} {e : Ending} (h : SealR w 23 11 4 18 2 [1] true (seedZ 7) e w') : Below w.heap.size w w' ∧ ∃ V R, e = .returned (.tuple #[V.v, R.v, .int .i64 0]) ∧ VtIn w' V ∧ RvIn w' R ∧ Sealed2 23 11 4 18 2 [1] true V R ∧ validP 23 11 4 18 2 V ∧ rangeP 11 2 R ∧ matchP 23 4 18 2 V R := by
 obtain ⟨hb, ⟨er, h1, -, h3, -⟩ | ⟨-, V, R, h1, h2, h3, h4⟩⟩ := h.cases
 · obtain ⟨d, hd⟩ := Fast.samp7
   have := (h3 sealE_7).1
   rw [show seedZ 7 = (Fast.seedN 7).map (Nat.cast : Nat → Int) from rfl, show manyS 2 true = 11 from rfl, hd] at this
   cases this
 · exact ⟨hb, V, R, h1, h2, h3, h4, h4.good grp_s mem_s⟩
open Go Go.RowKit Num Sha
theorem small36_any (w : World) :
    Calls Tryd.prog 28 #[] w fun e w' => e = .returned (.agg #[.int .u64 23, .int .u64 11, .int .u64 4]) ∧ Below w.heap.size w w' := by
  go_enter Tryd.func28, Tryd.ntmps28
  go_wp2
  exact bodyPost_ret (v := .agg #[.int .u64 23, .int .u64 11, .int .u64 4]) (by simp [results, Tryd.results28, go_sem]) rfl ⟨rfl, (Below.refl _ _).alloc (Nat.le_refl _) _⟩
theorem match_s {V : Vt} {R : Rv} (w : World) (hT : Tabs w) (hV : VtIn w V) (hR : RvIn w R) (hrn : R.n ≤ 1000) (h1 : rangeP 11 2 R) (h2 : matchP 23 4 18 2 V R) :
    Calls Tryd.prog 26 #[.agg #[.int .u64 23, .int .u64 11, .int .u64 4], .int .u64 18, .int .i64 2, V.v, R.v] w fun e w' => e = .returned (.tuple #[.bool true, .int .i64 0]) ∧ Below w.heap.size w w' := by
  refine (matches_any (P := 23) (Q := 11) (G := 4) (y := 18) (n := 2) w hT (by decide) (by decide) (by decide) (by decide) hV hR hrn).mono ?_
  rintro e w' ⟨hb, ⟨hc, -⟩ | ⟨-, ⟨hr, -⟩ | ⟨-, v, rfl, hv⟩⟩⟩
  · exact absurd chk_s hc
  · exact absurd h1 hr
  · rw [hv.2 h2]; exact ⟨rfl, hb⟩
def nilB : Bo := ⟨none, 0, 0, [], none, 0, 0, [], none, 0, 0, []⟩
theorem nilB_in (w : World) : BoIn w nilB := ⟨.inl ⟨rfl, rfl⟩, fun _ => rfl, .inl ⟨rfl, rfl⟩, fun _ => rfl, .inl ⟨rfl, rfl⟩, fun _ => rfl⟩
theorem nilB_sm : BoSm nilB := ⟨by decide, by decide, (fun R h => by cases h), (fun V h => by cases h)⟩
theorem nilB_ok {one : Bool} : boothP 23 11 4 18 2 one nilB := ⟨rfl, by decide, (fun V h => by cases h), List.nodup_nil, fun i R V h => by simp [nilB] at h⟩
theorem cast_s {V : Vt} {one : Bool} (w : World) (hT : Tabs w) (hV : VtIn w V) (hn : V.n = 2) (hm : V.m = 2) (hv : validP 23 11 4 18 2 V) (ho : V.one = one) :
    Calls Tryd.prog 19 #[.agg #[.int .u64 23, .int .u64 11, .int .u64 4], .int .u64 18, .int .i64 2, .bool one, .agg #[.slice none 0 0, .slice none 0 0, .slice none 0 0], V.v] w fun e w' => (∃ a c p q r s, e = .returned (.tuple #[.agg #[.slice a 1 c, .slice p 0 q, .slice r 0 s], .int .i64 0])) ∧ Below w.heap.size w w' := by
  refine (cast_any (P := 23) (Q := 11) (G := 4) (y := 18) (n := 2) (B := nilB) w hT (by decide) (by decide) (by decide) (by decide) (nilB_in w) nilB_sm hV (by omega) (by omega)).mono ?_
  rintro e w' ⟨hb, k, e', ha, h⟩
  obtain ⟨h0, hk⟩ := ha.ok chk_s nilB_ok ⟨ho, hv⟩ (by simp [nilB, cds])
  rcases h with ⟨h1, -⟩ | ⟨-, ⟨h1, -⟩ | ⟨-, B', rfl, -, h4, h5, h6, -⟩⟩
  · exact absurd h0 h1
  · rw [hk] at h1; simp [nilB] at h1
  · exact ⟨⟨_, _, _, _, _, _, by unfold Bo.v; rw [h4, h5, h6]; rfl⟩, hb⟩
theorem chal_s {V : Vt} {R : Rv} {one : Bool} (w : World) (hT : Tabs w) (hV : VtIn w V) (hR : RvIn w R) (hn : V.n = 2) (hm : V.m = 2) (hrn : R.n ≤ 1000) (hrm : R.m = 2) (hv : validP 23 11 4 18 2 V) (ho : V.one = one) (h1 : rangeP 11 2 R) (h2 : matchP 23 4 18 2 V R) :
    Calls Tryd.prog 20 #[.agg #[.int .u64 23, .int .u64 11, .int .u64 4], .int .u64 18, .int .i64 2, .bool one, .agg #[.slice none 0 0, .slice none 0 0, .slice none 0 0], V.v, R.v] w fun e w' => (∃ p q a c a' c', e = .returned (.tuple #[.agg #[.slice p 0 q, .slice a 1 c, .slice a' 1 c'], .int .i64 0])) ∧ Below w.heap.size w w' := by
  refine (chal_any (P := 23) (Q := 11) (G := 4) (y := 18) (n := 2) (B := nilB) w hT (by decide) (by decide) (by decide) (by decide) (nilB_in w) nilB_sm hV hR (by omega) (by omega) hrn (by omega)).mono ?_
  rintro e w' ⟨hb, k, e', ha, h⟩
  obtain ⟨h0, hk⟩ := ha.ok chk_s nilB_ok ⟨ho, hv⟩ (by simp [nilB, cds])
  rcases h with ⟨g1, -⟩ | ⟨-, ⟨g1, -⟩ | ⟨-, ⟨g1, -⟩ | ⟨-, B', rfl, -, h4, h5, h6, -⟩⟩⟩
  · exact absurd h0 g1
  · exact absurd ⟨h1, h2⟩ g1
  · rw [hk] at g1; simp [nilB] at g1
  · exact ⟨⟨_, _, _, _, _, _, by unfold Bo.v; rw [h4, h5, h6]; rfl⟩, hb⟩
theorem check_s {V : Vt} (w : World) (hT : Tabs w) (hV : VtIn w V) (hv : validP 23 11 4 18 2 V) :
    Calls Tryd.prog 27 #[.agg #[.int .u64 23, .int .u64 11, .int .u64 4], .int .u64 18, .int .i64 2, V.v] w fun e w' => e = .returned (.int .i64 0) ∧ Below w.heap.size w w' :=
  check_any (P := 23) (Q := 11) (G := 4) (y := 18) (n := 2) (e' := 0) w hT (by decide) (by decide) (by decide) (by decide) hV (.inr ⟨chk_s, .inl ⟨hv, rfl⟩⟩)
theorem run_al_booth (ρ : Operand → Value) (w : World) (dst : Option Tmp) (ty : TypeId) : (execOp ρ (bareOp dst (.alloc 53) ty)).run Tryd.prog w = .ok (.value (.pointer (some ⟨w.heap.size, 0, none⟩))) (w.alloc (.cells #[.slice none 0 0, .slice none 0 0, .slice none 0 0] 53)) := by
 unfold bareOp
 go_simp
set_option maxHeartbeats 8000000 in
theorem alive_any (w : World) (hT : Tabs w) :
    Calls Tryd.prog 17 #[] w fun e w' => e = .returned (.bool true) ∧ Below w.heap.size w w' := by
  have HT := Lh hT
  clear hT
  go_enter Tryd.func17, Tryd.ntmps17
  go_wp2_with fail
  refine (small36_any _).mono ?_
  rintro e w1 ⟨rfl, hb1⟩
  go_wp2_with fail
  have hbl : Below w.heap.size w (w1.alloc (.cells #[.int .i64 1] 3)) := hb1.alloc hb1.size _
  refine (seal_any (P := 23) (Q := 11) (G := 4) (y := 18) (n := 2) (ms := [1]) (seed := seedZ 7) _ (HT.o.below hbl) (by decide) (by decide) (by decide) (by decide) (ShI.lit1 .i64 w1 1 3 _ rfl) (by intro h; cases h) (by intro x hx; simp at hx; omega) (by omega) rfl (seedZ_bytes (by decide))).mono ?_
  rintro e w2 hs
  obtain ⟨hb2, V, R, rfl, hV, hR, hF, hvp, hrg, hmt⟩ := seal7 hs
  have HF := Lh hF
  have HVP := Lh hvp
  have HRG := Lh hrg
  have HMT := Lh hmt
  have HV := Lh hV
  have HR := Lh hR
  have HW2 := Lh (show w.heap.size ≤ w2.heap.size from Nat.le_trans hbl.size hb2.size)
  have HT2 := Lh (HT.o.below (hbl.trans (hb2.mono hbl.size)))
  have HBW := Lh (show Below w.heap.size w ((w2.alloc (.cells V.ca 29)).alloc (.cells #[.slice R.a R.n R.c, .slice R.b R.m R.d] 57)) from ((hbl.trans (hb2.mono hbl.size)).alloc HW2.o _).alloc (by have := HW2.o; simp; omega) _)
  have HB2 := Lh (show Below w2.heap.size w2 ((w2.alloc (.cells V.ca 29)).alloc (.cells #[.slice R.a R.n R.c, .slice R.b R.m R.d] 57)) from ((Below.refl _ _).alloc (Nat.le_refl _) _).alloc (by simp) _)
  have F_v := Lh ((Cl.at w2 V.cl 29 w2.heap.size rfl).alloc (.cells #[.slice R.a R.n R.c, .slice R.b R.m R.d] 57))
  have F_r := Lh (Cl.at (w2.alloc (.cells V.ca 29)) [.slice R.a R.n R.c, .slice R.b R.m R.d] 57 (w2.heap.size + 1) (by simp))
  clear hs hb1 hbl hb2 hV hR hF hvp hrg hmt HT
  unfold Vt.v Rv.v
  go_wp2_with fail
  replace F_v := Lh F_v.o.drew
  replace F_r := Lh F_r.o.drew
  replace HBW := Lh HBW.o.drew
  replace HB2 := Lh HB2.o.drew
  have hS0 := And.intro F_v.o F_r.o
  refine wp_region_stage 3 (fun w' => Cl w' w2.heap.size V.cl ∧ Cl w' (w2.heap.size + 1) [.slice R.a R.n R.c, .slice R.b R.m R.d]) (by kernel_rfl) ?_
  refine tkL (i := 1) (some 20) (.load 29 (.tmp 1)) 29 [3] (v := ?_) hS0 (fun w' hSw => ?_) ?_
  rotate_left
  · obtain ⟨t1, t2⟩ := hSw; obtain ⟨⟨q0, q1, q2, q3, q4, q5, q6, q7, q8, q9, q10⟩, -⟩ := t1.k11; have r0 := t2.c 0 _ rfl; have r1 := t2.c 1 _ rfl
    unfold bareOp; go_simp; try with_reducible rfl
  simp only [Act.put, sZ]
  refine tkL (i := 2) (some 21) (.load 57 (.tmp 2)) 57 [3] (v := ?_) hS0 (fun w' hSw => ?_) ?_
  rotate_left
  · obtain ⟨t1, t2⟩ := hSw; obtain ⟨⟨q0, q1, q2, q3, q4, q5, q6, q7, q8, q9, q10⟩, -⟩ := t1.k11; have r0 := t2.c 0 _ rfl; have r1 := t2.c 1 _ rfl
    unfold bareOp; go_simp; try with_reducible rfl
  simp only [Act.put, sZ]
  refine onl (i := 0) (some 19) (.call { callee := .value (.func 28), args := #[], argTypes := #[] }) 49 (fun K hK => ?_)
  unfold bareOp
  refine OpW.out (wp_of_enter (run_call _ _ _ _ 28 Tryd.func28 (vs := #[]) (by simp only [List.map_toArray, List.map_nil]) rfl (by kernel_rfl) (by kernel_rfl)) (small36_any _) ?_)
  rintro e w3 ⟨rfl, hb3⟩
  refine ⟨_, rfl, ?_⟩
  replace F_v := Lh (F_v.o.keep hb3)
  replace F_r := Lh (F_r.o.keep hb3)
  replace HBW := Lh (HBW.o.trans (hb3.mono HBW.o.size))
  replace HB2 := Lh (HB2.o.trans (hb3.mono HB2.o.size))
  clear hb3 hS0
  have hS0 := And.intro F_v.o F_r.o
  refine hK.o _ _ (fun _ => hS0) ?_
  clear hK K
  try simp only [Act.put, sZ]
  refine onl (i := 3) (some 22) (.call { callee := .value (.func 26), args := #[.tmp 19, .const (.int .u64 18), .const (.int .i64 2), .tmp 20, .tmp 21], argTypes := #[49, 24, 3, 29, 57] }) 70 (fun K hK => ?_)
  unfold bareOp
  refine OpW.out (wp_of_enter (run_call _ _ _ _ 26 Tryd.func26 (vs := #[.agg #[.int .u64 23, .int .u64 11, .int .u64 4], .int .u64 18, .int .i64 2, V.v, R.v]) (by simp only [List.map_toArray, List.map_cons, List.map_nil]; rfl) rfl (by kernel_rfl) (by kernel_rfl)) (match_s _ (HT2.o.below HB2.o) (HV.o.keep HB2.o) (HR.o.keep HB2.o) (by rw [HF.o.rn]; decide) HRG.o HMT.o) ?_)
  rintro e w4 ⟨rfl, hb4⟩
  refine ⟨_, rfl, ?_⟩
  replace F_v := Lh (F_v.o.keep hb4)
  replace F_r := Lh (F_r.o.keep hb4)
  replace HBW := Lh (HBW.o.trans (hb4.mono HBW.o.size))
  replace HB2 := Lh (HB2.o.trans (hb4.mono HB2.o.size))
  clear hb4 hS0
  have hS0 := And.intro F_v.o F_r.o
  refine hK.o _ _ lt8 ?_
  clear hK K
  try simp only [Act.put, sZ]
  refine tkP (i := 4) (some 18) (.move (.tmp 22)) 70 lt8 ?_
  simp only [Act.put, sZ]
  refine tkP (i := 5) (some 23) (.extract (.tmp 18) 0) 4 lt8 ?_
  simp only [Act.put, sZ]
  refine tkP (i := 6) (some 24) (.extract (.tmp 18) 1) 32 lt8 ?_
  simp only [Act.put, sZ]
  refine tkP (i := 7) (some 4) (.assign (.tmp 23)) 4 lt8 ?_
  simp only [Act.put, sZ]
  refine tkP (i := 8) (some 5) (.assign (.tmp 24)) 32 lt8 ?_
  simp only [Act.put, sZ]
  refine wpAnyB_done (by kernel_rfl) ?_ _
  go_wp2_with fail
  replace F_v := Lh F_v.o.drew
  replace F_r := Lh F_r.o.drew
  replace HBW := Lh HBW.o.drew
  replace HB2 := Lh HB2.o.drew
  have hS0 := And.intro F_v.o F_r.o
  refine wp_region_stage 8 (fun w' => Cl w' w2.heap.size V.cl ∧ Cl w' (w2.heap.size + 1) [.slice R.a R.n R.c, .slice R.b R.m R.d]) (by kernel_rfl) ?_
  refine tkP (i := 1) (some 27) (.build 53 #[]) 53 (fun _ => hS0) ?_
  simp only [Act.put, sZ]
  refine tkL (i := 2) (some 28) (.load 29 (.tmp 1)) 29 [3, 4, 5, 8] (v := ?_) hS0 (fun w' hSw => ?_) ?_
  rotate_left
  · obtain ⟨t1, t2⟩ := hSw; obtain ⟨⟨q0, q1, q2, q3, q4, q5, q6, q7, q8, q9, q10⟩, -⟩ := t1.k11; have r0 := t2.c 0 _ rfl; have r1 := t2.c 1 _ rfl
    unfold bareOp; go_simp; try with_reducible rfl
  simp only [Act.put, sZ]
  refine wpAnyB_cloud0 (fuel := 2) [(0, 26), (3, 29), (4, 25), (5, 30), (6, 31), (7, 6)] [4, 5, 6] (fun y w' => Cl w' w2.heap.size V.cl ∧ Cl w' (w2.heap.size + 1) [.slice R.a R.n R.c, .slice R.b R.m R.d] ∧ Below w.heap.size w w' ∧ Below w2.heap.size w2 w' ∧ (∀ v, y 0 = some v → v = .agg #[.int .u64 23, .int .u64 11, .int .u64 4]) ∧ (∀ v, y 3 = some v → ∃ a c p q r s, v = .tuple #[.agg #[.slice a 1 c, .slice p 0 q, .slice r 0 s], .int .i64 0]) ∧ (∀ v, y 4 = some v → ∃ a c p q r s, v = .tuple #[.agg #[.slice a 1 c, .slice p 0 q, .slice r 0 s], .int .i64 0]) ∧ (∀ v, y 5 = some v → ∃ a c p q r s, v = .agg #[.slice a 1 c, .slice p 0 q, .slice r 0 s]) ∧ (∀ v, y 6 = some v → v = .int .i64 0) ∧ (∀ v, y 7 = some v → ∃ B, v = .pointer (some ⟨B, 0, none⟩) ∧ (w2.heap.size < B ∧ w2.heap.size + 1 < B) ∧ Cl w' B [.slice none 0 0, .slice none 0 0, .slice none 0 0])) rfl (by decide) (by decide) (by kernel_rfl) (by kernel_rfl) (by kernel_rfl) (fun _ _ _ _ _ h => h) (fun y w' hI => And.intro hI.1 hI.2.1) ⟨F_v.o, F_r.o, HBW.o, HB2.o, fun v h => (by cases h), fun v h => (by cases h), fun v h => (by cases h), fun v h => (by cases h), fun v h => (by cases h), fun v h => (by cases h)⟩ ?_ ?_
  · intro p hp y w8 hyn hy hrd hI
    obtain ⟨hv, hr, hbw, hb2, hq0, hq3, hq4, hq5, hq6, hq7⟩ := hI
    simp only [List.mem_cons, List.not_mem_nil, or_false] at hp
    rcases hp with rfl | rfl | rfl | rfl | rfl | rfl
    · refine takeN (by kernel_rfl) (wpOp_bare (some 26) (Op.call { callee := Callee.value (Operand.func 28), args := #[], argTypes := #[] }) 49 ⟨_, rfl, rfl, rfl, rfl, rfl⟩ (fun K hK => ?_))
      refine wp_of_enter (run_call _ _ _ _ 28 Tryd.func28 (vs := #[]) ?hv rfl (by kernel_rfl) (by kernel_rfl)) (small36_any w8) ?_
      case hv =>
       simp only [List.map_toArray, List.map_cons, List.map_nil]
      rintro e w9 ⟨rfl, hb9⟩
      refine ⟨_, rfl, hK.o _ _ ⟨_, rfl, ?_⟩⟩
      refine ⟨hv.keep hb9, hr.keep hb9, hbw.trans (hb9.mono hbw.size), hb2.trans (hb9.mono hb2.size), ?_, ?_, ?_, ?_, ?_, ?_⟩
      · exact fun v hv => (uS hv).symm
      · exact fun v hv => hq3 v (uN hv)
      · exact fun v hv => hq4 v (uN hv)
      · exact fun v hv => hq5 v (uN hv)
      · exact fun v hv => hq6 v (uN hv)
      · intro v hv; have h := hq7 v (uN hv); obtain ⟨B, h1, h2, hL⟩ := h; exact ⟨B, h1, h2, hL.keep hb9⟩
    · refine takeN (by kernel_rfl) (wpOp_bare (some 29) (Op.call { callee := Callee.value (Operand.func 19), args := #[Operand.tmp 26, Operand.const (Value.int IntKind.u64 18), Operand.const (Value.int IntKind.i64 2), Operand.const (Value.bool true), Operand.tmp 27, Operand.tmp 28], argTypes := #[49, 24, 3, 4, 53, 29] }) 60 ⟨_, rfl, rfl, rfl, rfl, rfl⟩ (fun K hK => ?_))
      obtain ⟨v0, hv0⟩ := depC hy (j := 0) (d := 26) (by simp) hrd rfl (by kernel_rfl)
      obtain rfl := hq0 v0 hv0
      refine wp_of_enter (run_call _ _ _ _ 19 Tryd.func19 (vs := #[.agg #[.int .u64 23, .int .u64 11, .int .u64 4], .int .u64 18, .int .i64 2, .bool true, .agg #[.slice none 0 0, .slice none 0 0, .slice none 0 0], V.v]) ?hv rfl (by kernel_rfl) (by kernel_rfl)) (cast_s w8 (HT2.o.below hb2) (HV.o.keep hb2) HF.o.vn HF.o.vm HVP.o HF.o.vo) ?_
      case hv =>
       simp only [List.map_toArray, List.map_cons, List.map_nil]
       rw [eval_putC_not _ _ 27 (by decide), eval_putC_not _ _ 28 (by decide), eval_putC _ _ (j := 0) (d := 26) (by simp) (by decide) hv0 (of_decide_eq_true (by kernel_rfl))]
       rfl
      rintro e w9 ⟨⟨x0, x1, x2, x3, x4, x5, rfl⟩, hb9⟩
      refine ⟨_, rfl, hK.o _ _ ⟨_, rfl, ?_⟩⟩
      refine ⟨hv.keep hb9, hr.keep hb9, hbw.trans (hb9.mono hbw.size), hb2.trans (hb9.mono hb2.size), ?_, ?_, ?_, ?_, ?_, ?_⟩
      · exact fun v hv => hq0 v (uN hv)
      · intro v hv; rw [updC_same] at hv; cases hv; exact ⟨_, _, _, _, _, _, rfl⟩
      · exact fun v hv => hq4 v (uN hv)
      · exact fun v hv => hq5 v (uN hv)
      · exact fun v hv => hq6 v (uN hv)
      · intro v hv; have h := hq7 v (uN hv); obtain ⟨B, h1, h2, hL⟩ := h; exact ⟨B, h1, h2, hL.keep hb9⟩
    · refine takeF (by kernel_rfl) ?_
      obtain ⟨v3, hv3⟩ := depC hy (j := 3) (d := 29) (by simp) hrd rfl (by kernel_rfl)
      obtain ⟨x0, x1, x2, x3, x4, x5, rfl⟩ := hq3 v3 hv3
      refine yields_bare _ _ ⟨_, rfl, rfl, rfl, rfl, rfl⟩ (fun w => run_move _ w _ _ _ (eval_putC _ _ (j := 3) (d := 29) (by simp) (by decide) hv3 (of_decide_eq_true (by kernel_rfl)))) ?_
      refine ⟨hv, hr, hbw, hb2, ?_, ?_, ?_, ?_, ?_, ?_⟩
      · exact fun v hv => hq0 v (uN hv)
      · exact fun v hv => hq3 v (uN hv)
      · intro v hv; rw [updC_same] at hv; cases hv; exact ⟨_, _, _, _, _, _, rfl⟩
      · exact fun v hv => hq5 v (uN hv)
      · exact fun v hv => hq6 v (uN hv)
      · exact fun v hv => hq7 v (uN hv)
    · refine takeF (by kernel_rfl) ?_
      obtain ⟨v4, hv4⟩ := depC hy (j := 4) (d := 25) (by simp) hrd rfl (by kernel_rfl)
      obtain ⟨x0, x1, x2, x3, x4, x5, rfl⟩ := hq4 v4 hv4
      refine yields_bare _ _ ⟨_, rfl, rfl, rfl, rfl, rfl⟩ (fun w => run_extract _ w _ _ _ 0 (eval_putC _ _ (j := 4) (d := 25) (by simp) (by decide) hv4 (of_decide_eq_true (by kernel_rfl))) rfl) ?_
      refine ⟨hv, hr, hbw, hb2, ?_, ?_, ?_, ?_, ?_, ?_⟩
      · exact fun v hv => hq0 v (uN hv)
      · exact fun v hv => hq3 v (uN hv)
      · exact fun v hv => hq4 v (uN hv)
      · intro v hv; rw [updC_same] at hv; cases hv; exact ⟨_, _, _, _, _, _, rfl⟩
      · exact fun v hv => hq6 v (uN hv)
      · exact fun v hv => hq7 v (uN hv)
    · refine takeF (by kernel_rfl) ?_
      obtain ⟨v4, hv4⟩ := depC hy (j := 4) (d := 25) (by simp) hrd rfl (by kernel_rfl)
      obtain ⟨x0, x1, x2, x3, x4, x5, rfl⟩ := hq4 v4 hv4
      refine yields_bare _ _ ⟨_, rfl, rfl, rfl, rfl, rfl⟩ (fun w => run_extract _ w _ _ _ 1 (eval_putC _ _ (j := 4) (d := 25) (by simp) (by decide) hv4 (of_decide_eq_true (by kernel_rfl))) rfl) ?_
      refine ⟨hv, hr, hbw, hb2, ?_, ?_, ?_, ?_, ?_, ?_⟩
      · exact fun v hv => hq0 v (uN hv)
      · exact fun v hv => hq3 v (uN hv)
      · exact fun v hv => hq4 v (uN hv)
      · exact fun v hv => hq5 v (uN hv)
      · exact fun v hv => (uS hv).symm
      · exact fun v hv => hq7 v (uN hv)
    · refine takeN (by kernel_rfl) (wpOp_bare (some 6) (Op.alloc 53) 0 ⟨_, rfl, rfl, rfl, rfl, rfl⟩ (fun K hK => ?_))
      refine wp_of_run (run_al_booth _ _ _ _) (hK.o _ _ ⟨_, rfl, ?_⟩)
      refine ⟨hv.alloc _, hr.alloc _, hbw.alloc hbw.size _, hb2.alloc hb2.size _, ?_, ?_, ?_, ?_, ?_, ?_⟩
      · exact fun v hv => hq0 v (uN hv)
      · exact fun v hv => hq3 v (uN hv)
      · exact fun v hv => hq4 v (uN hv)
      · exact fun v hv => hq5 v (uN hv)
      · exact fun v hv => hq6 v (uN hv)
      · intro v hv; rw [updC_same] at hv; cases hv; exact ⟨w8.heap.size, rfl, ⟨hv.lt, hr.lt⟩, Cl.at w8 [.slice none 0 0, .slice none 0 0, .slice none 0 0] _ _ rfl⟩
  intro y w9 hall hI
  obtain ⟨hv, hr, hbw, hb2, hq0, hq3, hq4, hq5, hq6, hq7⟩ := hI
  obtain ⟨v0, hv0⟩ := Option.isSome_iff_exists.1 (hall (0, 26) (by simp))
  obtain ⟨v3, hv3⟩ := Option.isSome_iff_exists.1 (hall (3, 29) (by simp))
  obtain ⟨v4, hv4⟩ := Option.isSome_iff_exists.1 (hall (4, 25) (by simp))
  obtain ⟨v5, hv5⟩ := Option.isSome_iff_exists.1 (hall (5, 30) (by simp))
  obtain ⟨v6, hv6⟩ := Option.isSome_iff_exists.1 (hall (6, 31) (by simp))
  obtain ⟨v7, hv7⟩ := Option.isSome_iff_exists.1 (hall (7, 6) (by simp))
  clear hall
  obtain rfl := hq0 v0 hv0
  obtain ⟨z0, z1, z2, z3, z4, z5, rfl⟩ := hq3 v3 hv3
  obtain ⟨zz0, zz1, zz2, zz3, zz4, zz5, rfl⟩ := hq4 v4 hv4
  obtain ⟨a3, c3, p3, q3, r3, s3, rfl⟩ := hq5 v5 hv5
  obtain rfl := hq6 v6 hv6
  obtain ⟨Bb, rfl, hltb, hLb⟩ := hq7 v7 hv7
  replace F_v := Lh hv
  replace F_r := Lh hr
  have F_b := Lh hLb
  replace HBW := Lh hbw
  replace HB2 := Lh hb2
  have hS0 := And.intro hv hr
  clear hv hr hbw hb2 hq0 hq3 hq4 hq5 hq6 hq7 hLb
  simp only [putC, setAll, Act.put, sZ, Option.getD_some, hv0, hv3, hv4, hv5, hv6, hv7]
  clear hv0 hv3 hv4 hv5 hv6 hv7
  refine onl (i := 8) none (.store 53 (.tmp 6) (.tmp 30)) 0 (fun K hK => ?_)
  unfold bareOp
  refine wp_storeCl 53 (.tmp 6) (.tmp 30) Bb 0 [.slice none 0 0, .slice none 0 0, .slice none 0 0] [.slice a3 1 c3, .slice p3 0 q3, .slice r3 0 s3] [.slice a3 1 c3, .slice p3 0 q3, .slice r3 0 s3] rfl rfl rfl (by kernel_rfl) (by intro u hu; simp at hu; rcases hu with rfl | rfl | rfl <;> rfl) F_b.o (by simp) rfl ?_
  intro w5 hca hga hza
  have hb2s := HB2.o.size
  have hbws := HBW.o.size
  have hw22 := HW2.o
  replace F_b := Lh hca
  replace F_v := Lh (F_v.o.gro hga (by omega))
  replace F_r := Lh (F_r.o.gro hga (by omega))
  replace HBW := Lh (HBW.o.trans (hga.blw (n := w.heap.size) (by omega) hbws))
  replace HB2 := Lh (HB2.o.trans (hga.blw (n := w2.heap.size) (by omega) hb2s))
  clear hca hga hza hS0 hb2s hbws
  refine hK.o _ _ lt8 ?_
  clear hK K
  try simp only [Act.put, sZ]
  refine tkP (i := 9) (some 7) (.assign (.tmp 31)) 32 lt8 ?_
  simp only [Act.put, sZ]
  refine wpAnyB_done (by kernel_rfl) ?_ _
  go_wp2_with fail
  replace F_v := Lh F_v.o.drew
  replace F_r := Lh F_r.o.drew
  replace F_b := Lh F_b.o.drew
  replace HBW := Lh HBW.o.drew
  replace HB2 := Lh HB2.o.drew
  have hS0 := And.intro F_v.o F_r.o
  refine wp_region_stage 9 (fun w' => Cl w' w2.heap.size V.cl ∧ Cl w' (w2.heap.size + 1) [.slice R.a R.n R.c, .slice R.b R.m R.d]) (by kernel_rfl) ?_
  refine tkP (i := 1) (some 34) (.build 53 #[]) 53 (fun _ => hS0) ?_
  simp only [Act.put, sZ]
  refine tkL (i := 2) (some 35) (.load 29 (.tmp 1)) 29 [4, 5, 6, 9] (v := ?_) hS0 (fun w' hSw => ?_) ?_
  rotate_left
  · obtain ⟨t1, t2⟩ := hSw; obtain ⟨⟨q0, q1, q2, q3, q4, q5, q6, q7, q8, q9, q10⟩, -⟩ := t1.k11; have r0 := t2.c 0 _ rfl; have r1 := t2.c 1 _ rfl
    unfold bareOp; go_simp; try with_reducible rfl
  simp only [Act.put, sZ]
  refine tkL (i := 3) (some 36) (.load 57 (.tmp 2)) 57 [4, 5, 6, 9] (v := ?_) hS0 (fun w' hSw => ?_) ?_
  rotate_left
  · obtain ⟨t1, t2⟩ := hSw; obtain ⟨⟨q0, q1, q2, q3, q4, q5, q6, q7, q8, q9, q10⟩, -⟩ := t1.k11; have r0 := t2.c 0 _ rfl; have r1 := t2.c 1 _ rfl
    unfold bareOp; go_simp; try with_reducible rfl
  simp only [Act.put, sZ]
  refine wpAnyB_cloud0 (fuel := 2) [(0, 33), (4, 37), (5, 32), (6, 38), (7, 39), (8, 8)] [5, 6, 7] (fun y w' => Cl w' w2.heap.size V.cl ∧ Cl w' (w2.heap.size + 1) [.slice R.a R.n R.c, .slice R.b R.m R.d] ∧ Cl w' Bb [.slice a3 1 c3, .slice p3 0 q3, .slice r3 0 s3] ∧ Below w.heap.size w w' ∧ Below w2.heap.size w2 w' ∧ (∀ v, y 0 = some v → v = .agg #[.int .u64 23, .int .u64 11, .int .u64 4]) ∧ (∀ v, y 4 = some v → ∃ p q a c a' c', v = .tuple #[.agg #[.slice p 0 q, .slice a 1 c, .slice a' 1 c'], .int .i64 0]) ∧ (∀ v, y 5 = some v → ∃ p q a c a' c', v = .tuple #[.agg #[.slice p 0 q, .slice a 1 c, .slice a' 1 c'], .int .i64 0]) ∧ (∀ v, y 6 = some v → ∃ p q a c a' c', v = .agg #[.slice p 0 q, .slice a 1 c, .slice a' 1 c']) ∧ (∀ v, y 7 = some v → v = .int .i64 0) ∧ (∀ v, y 8 = some v → ∃ B, v = .pointer (some ⟨B, 0, none⟩) ∧ (w2.heap.size < B ∧ w2.heap.size + 1 < B ∧ Bb < B) ∧ Cl w' B [.slice none 0 0, .slice none 0 0, .slice none 0 0])) rfl (by decide) (by decide) (by kernel_rfl) (by kernel_rfl) (by kernel_rfl) (fun _ _ _ _ _ h => h) (fun y w' hI => And.intro hI.1 hI.2.1) ⟨F_v.o, F_r.o, F_b.o, HBW.o, HB2.o, fun v h => (by cases h), fun v h => (by cases h), fun v h => (by cases h), fun v h => (by cases h), fun v h => (by cases h), fun v h => (by cases h)⟩ ?_ ?_
  · intro p hp y w8 hyn hy hrd hI
    obtain ⟨hv, hr, hb, hbw, hb2, hq0, hq4, hq5, hq6, hq7, hq8⟩ := hI
    simp only [List.mem_cons, List.not_mem_nil, or_false] at hp
    rcases hp with rfl | rfl | rfl | rfl | rfl | rfl
    · refine takeN (by kernel_rfl) (wpOp_bare (some 33) (Op.call { callee := Callee.value (Operand.func 28), args := #[], argTypes := #[] }) 49 ⟨_, rfl, rfl, rfl, rfl, rfl⟩ (fun K hK => ?_))
      refine wp_of_enter (run_call _ _ _ _ 28 Tryd.func28 (vs := #[]) ?hv rfl (by kernel_rfl) (by kernel_rfl)) (small36_any w8) ?_
      case hv =>
       simp only [List.map_toArray, List.map_cons, List.map_nil]
      rintro e w9 ⟨rfl, hb9⟩
      refine ⟨_, rfl, hK.o _ _ ⟨_, rfl, ?_⟩⟩
      refine ⟨hv.keep hb9, hr.keep hb9, hb.keep hb9, hbw.trans (hb9.mono hbw.size), hb2.trans (hb9.mono hb2.size), ?_, ?_, ?_, ?_, ?_, ?_⟩
      · exact fun v hv => (uS hv).symm
      · exact fun v hv => hq4 v (uN hv)
      · exact fun v hv => hq5 v (uN hv)
      · exact fun v hv => hq6 v (uN hv)
      · exact fun v hv => hq7 v (uN hv)
      · intro v hv; have h := hq8 v (uN hv); obtain ⟨B, h1, h2, hL⟩ := h; exact ⟨B, h1, h2, hL.keep hb9⟩
    · refine takeN (by kernel_rfl) (wpOp_bare (some 37) (Op.call { callee := Callee.value (Operand.func 20), args := #[Operand.tmp 33, Operand.const (Value.int IntKind.u64 18), Operand.const (Value.int IntKind.i64 2), Operand.const (Value.bool true), Operand.tmp 34, Operand.tmp 35, Operand.tmp 36], argTypes := #[49, 24, 3, 4, 53, 29, 57] }) 60 ⟨_, rfl, rfl, rfl, rfl, rfl⟩ (fun K hK => ?_))
      obtain ⟨v0, hv0⟩ := depC hy (j := 0) (d := 33) (by simp) hrd rfl (by kernel_rfl)
      obtain rfl := hq0 v0 hv0
      refine wp_of_enter (run_call _ _ _ _ 20 Tryd.func20 (vs := #[.agg #[.int .u64 23, .int .u64 11, .int .u64 4], .int .u64 18, .int .i64 2, .bool true, .agg #[.slice none 0 0, .slice none 0 0, .slice none 0 0], V.v, R.v]) ?hv rfl (by kernel_rfl) (by kernel_rfl)) (chal_s w8 (HT2.o.below hb2) (HV.o.keep hb2) (HR.o.keep hb2) HF.o.vn HF.o.vm (by rw [HF.o.rn]; decide) HF.o.rm HVP.o HF.o.vo HRG.o HMT.o) ?_
      case hv =>
       simp only [List.map_toArray, List.map_cons, List.map_nil]
       rw [eval_putC_not _ _ 34 (by decide), eval_putC_not _ _ 35 (by decide), eval_putC_not _ _ 36 (by decide), eval_putC _ _ (j := 0) (d := 33) (by simp) (by decide) hv0 (of_decide_eq_true (by kernel_rfl))]
       rfl
      rintro e w9 ⟨⟨x0, x1, x2, x3, x4, x5, rfl⟩, hb9⟩
      refine ⟨_, rfl, hK.o _ _ ⟨_, rfl, ?_⟩⟩
      refine ⟨hv.keep hb9, hr.keep hb9, hb.keep hb9, hbw.trans (hb9.mono hbw.size), hb2.trans (hb9.mono hb2.size), ?_, ?_, ?_, ?_, ?_, ?_⟩
      · exact fun v hv => hq0 v (uN hv)
      · intro v hv; rw [updC_same] at hv; cases hv; exact ⟨_, _, _, _, _, _, rfl⟩
      · exact fun v hv => hq5 v (uN hv)
      · exact fun v hv => hq6 v (uN hv)
      · exact fun v hv => hq7 v (uN hv)
      · intro v hv; have h := hq8 v (uN hv); obtain ⟨B, h1, h2, hL⟩ := h; exact ⟨B, h1, h2, hL.keep hb9⟩
    · refine takeF (by kernel_rfl) ?_
      obtain ⟨v4, hv4⟩ := depC hy (j := 4) (d := 37) (by simp) hrd rfl (by kernel_rfl)
      obtain ⟨x0, x1, x2, x3, x4, x5, rfl⟩ := hq4 v4 hv4
      refine yields_bare _ _ ⟨_, rfl, rfl, rfl, rfl, rfl⟩ (fun w => run_move _ w _ _ _ (eval_putC _ _ (j := 4) (d := 37) (by simp) (by decide) hv4 (of_decide_eq_true (by kernel_rfl)))) ?_
      refine ⟨hv, hr, hb, hbw, hb2, ?_, ?_, ?_, ?_, ?_, ?_⟩
      · exact fun v hv => hq0 v (uN hv)
      · exact fun v hv => hq4 v (uN hv)
      · intro v hv; rw [updC_same] at hv; cases hv; exact ⟨_, _, _, _, _, _, rfl⟩
      · exact fun v hv => hq6 v (uN hv)
      · exact fun v hv => hq7 v (uN hv)
      · exact fun v hv => hq8 v (uN hv)
    · refine takeF (by kernel_rfl) ?_
      obtain ⟨v5, hv5⟩ := depC hy (j := 5) (d := 32) (by simp) hrd rfl (by kernel_rfl)
      obtain ⟨x0, x1, x2, x3, x4, x5, rfl⟩ := hq5 v5 hv5
      refine yields_bare _ _ ⟨_, rfl, rfl, rfl, rfl, rfl⟩ (fun w => run_extract _ w _ _ _ 0 (eval_putC _ _ (j := 5) (d := 32) (by simp) (by decide) hv5 (of_decide_eq_true (by kernel_rfl))) rfl) ?_
      refine ⟨hv, hr, hb, hbw, hb2, ?_, ?_, ?_, ?_, ?_, ?_⟩
      · exact fun v hv => hq0 v (uN hv)
      · exact fun v hv => hq4 v (uN hv)
      · exact fun v hv => hq5 v (uN hv)
      · intro v hv; rw [updC_same] at hv; cases hv; exact ⟨_, _, _, _, _, _, rfl⟩
      · exact fun v hv => hq7 v (uN hv)
      · exact fun v hv => hq8 v (uN hv)
    · refine takeF (by kernel_rfl) ?_
      obtain ⟨v5, hv5⟩ := depC hy (j := 5) (d := 32) (by simp) hrd rfl (by kernel_rfl)
      obtain ⟨x0, x1, x2, x3, x4, x5, rfl⟩ := hq5 v5 hv5
      refine yields_bare _ _ ⟨_, rfl, rfl, rfl, rfl, rfl⟩ (fun w => run_extract _ w _ _ _ 1 (eval_putC _ _ (j := 5) (d := 32) (by simp) (by decide) hv5 (of_decide_eq_true (by kernel_rfl))) rfl) ?_
      refine ⟨hv, hr, hb, hbw, hb2, ?_, ?_, ?_, ?_, ?_, ?_⟩
      · exact fun v hv => hq0 v (uN hv)
      · exact fun v hv => hq4 v (uN hv)
      · exact fun v hv => hq5 v (uN hv)
      · exact fun v hv => hq6 v (uN hv)
      · exact fun v hv => (uS hv).symm
      · exact fun v hv => hq8 v (uN hv)
    · refine takeN (by kernel_rfl) (wpOp_bare (some 8) (Op.alloc 53) 0 ⟨_, rfl, rfl, rfl, rfl, rfl⟩ (fun K hK => ?_))
      refine wp_of_run (run_al_booth _ _ _ _) (hK.o _ _ ⟨_, rfl, ?_⟩)
      refine ⟨hv.alloc _, hr.alloc _, hb.alloc _, hbw.alloc hbw.size _, hb2.alloc hb2.size _, ?_, ?_, ?_, ?_, ?_, ?_⟩
      · exact fun v hv => hq0 v (uN hv)
      · exact fun v hv => hq4 v (uN hv)
      · exact fun v hv => hq5 v (uN hv)
      · exact fun v hv => hq6 v (uN hv)
      · exact fun v hv => hq7 v (uN hv)
      · intro v hv; rw [updC_same] at hv; cases hv; exact ⟨w8.heap.size, rfl, ⟨hv.lt, hr.lt, hb.lt⟩, Cl.at w8 [.slice none 0 0, .slice none 0 0, .slice none 0 0] _ _ rfl⟩
  intro y w9 hall hI
  obtain ⟨hv, hr, hb, hbw, hb2, hq0, hq4, hq5, hq6, hq7, hq8⟩ := hI
  obtain ⟨v0, hv0⟩ := Option.isSome_iff_exists.1 (hall (0, 33) (by simp))
  obtain ⟨v4, hv4⟩ := Option.isSome_iff_exists.1 (hall (4, 37) (by simp))
  obtain ⟨v5, hv5⟩ := Option.isSome_iff_exists.1 (hall (5, 32) (by simp))
  obtain ⟨v6, hv6⟩ := Option.isSome_iff_exists.1 (hall (6, 38) (by simp))
  obtain ⟨v7, hv7⟩ := Option.isSome_iff_exists.1 (hall (7, 39) (by simp))
  obtain ⟨v8, hv8⟩ := Option.isSome_iff_exists.1 (hall (8, 8) (by simp))
  clear hall
  obtain rfl := hq0 v0 hv0
  obtain ⟨z0, z1, z2, z3, z4, z5, rfl⟩ := hq4 v4 hv4
  obtain ⟨zz0, zz1, zz2, zz3, zz4, zz5, rfl⟩ := hq5 v5 hv5
  obtain ⟨p4, q4, a4, c4, a5, c5, rfl⟩ := hq6 v6 hv6
  obtain rfl := hq7 v7 hv7
  obtain ⟨Bc, rfl, hltc, hLc⟩ := hq8 v8 hv8
  replace F_v := Lh hv
  replace F_r := Lh hr
  replace F_b := Lh hb
  have F_c := Lh hLc
  replace HBW := Lh hbw
  replace HB2 := Lh hb2
  have hS0 := And.intro hv hr
  clear hv hr hb hbw hb2 hq0 hq4 hq5 hq6 hq7 hq8 hLc
  simp only [putC, setAll, Act.put, sZ, Option.getD_some, hv0, hv4, hv5, hv6, hv7, hv8]
  clear hv0 hv4 hv5 hv6 hv7 hv8
  refine onl (i := 9) none (.store 53 (.tmp 8) (.tmp 38)) 0 (fun K hK => ?_)
  unfold bareOp
  refine wp_storeCl 53 (.tmp 8) (.tmp 38) Bc 0 [.slice none 0 0, .slice none 0 0, .slice none 0 0] [.slice p4 0 q4, .slice a4 1 c4, .slice a5 1 c5] [.slice p4 0 q4, .slice a4 1 c4, .slice a5 1 c5] rfl rfl rfl (by kernel_rfl) (by intro u hu; simp at hu; rcases hu with rfl | rfl | rfl <;> rfl) F_c.o (by simp) rfl ?_
  intro w6 hca hga hza
  have hb2s := HB2.o.size
  have hbws := HBW.o.size
  have hw22 := HW2.o
  replace F_c := Lh hca
  replace F_v := Lh (F_v.o.gro hga (by omega))
  replace F_r := Lh (F_r.o.gro hga (by omega))
  replace F_b := Lh (F_b.o.gro hga (by omega))
  replace HBW := Lh (HBW.o.trans (hga.blw (n := w.heap.size) (by omega) hbws))
  replace HB2 := Lh (HB2.o.trans (hga.blw (n := w2.heap.size) (by omega) hb2s))
  clear hca hga hza hS0 hb2s hbws
  refine hK.o _ _ lt8 ?_
  clear hK K
  try simp only [Act.put, sZ]
  refine tkP (i := 10) (some 9) (.assign (.tmp 39)) 32 lt8 ?_
  simp only [Act.put, sZ]
  refine wpAnyB_done (by kernel_rfl) ?_ _
  go_wp2_with fail
  have hvn2 : ((V.n : Int) == 2) = true := by rw [HF.o.vn]; rfl
  replace F_v := Lh F_v.o.drew
  replace F_b := Lh F_b.o.drew
  replace F_c := Lh F_c.o.drew
  replace HBW := Lh HBW.o.drew
  replace HB2 := Lh HB2.o.drew
  have hS0 := And.intro F_v.o (And.intro F_b.o F_c.o)
  refine wp_region_stage 41 (fun w' => Cl w' w2.heap.size V.cl ∧ Cl w' Bb [.slice a3 1 c3, .slice p3 0 q3, .slice r3 0 s3] ∧ Cl w' Bc [.slice p4 0 q4, .slice a4 1 c4, .slice a5 1 c5]) (by kernel_rfl) ?_
  refine tkP (i := 0) (some 40) (.move (.tmp 3)) 32 (fun _ => hS0) ?_
  simp only [Act.put, sZ]
  refine tkP (i := 1) (some 41) (.binOp .eql 32 (.tmp 40) (.const (.int .i64 0)) 32) 4 (fun _ => hS0) ?_
  simp only [Act.put, sZ]
  refine tkP (i := 2) (some 42) (.move (.tmp 41)) 4 (fun _ => hS0) ?_
  simp only [Act.put, sZ]
  refine tkLG (i := 4) (some 44) (.load 29 (.tmp 1)) 29 (some (2, true)) [5, 6, 7, 8, 9, 10, 11, 12, 13, 14, 15, 16, 17, 18, 19, 20, 21, 22, 23, 24, 25, 26, 27, 28, 29, 30, 31, 32, 33, 34, 35, 36, 37, 38, 39, 40, 41] (v := ?_) hS0 (fun w' hSw => ?_) ?_
  rotate_left
  · obtain ⟨t1, t2, t3⟩ := hSw; obtain ⟨⟨q0, q1, q2, q3, q4, q5, q6, q7, q8, q9, q10⟩, -⟩ := t1.k11; have r0 := t2.c 0 _ rfl; have r1 := t3.c 1 _ rfl
    unfold bareOp; go_simp; try with_reducible rfl
  simp only [Act.put, sZ]
  refine wpAnyB_onlyG (i := 3) (some 43) (.call { callee := .value (.func 28), args := #[], argTypes := #[] }) 49 (some (2, true)) ⟨_, rfl, rfl, rfl, rfl, rfl⟩ (by kernel_rfl) rfl (fun K hK => ?_)
  unfold bareOp
  refine OpW.out (wp_of_enter (run_call _ _ _ _ 28 Tryd.func28 (vs := #[]) (by simp only [List.map_toArray, List.map_nil]) rfl (by kernel_rfl) (by kernel_rfl)) (small36_any _) ?_)
  rintro e w7 ⟨rfl, hb7⟩
  refine ⟨_, rfl, ?_⟩
  replace F_v := Lh (F_v.o.keep hb7)
  replace F_b := Lh (F_b.o.keep hb7)
  replace F_c := Lh (F_c.o.keep hb7)
  replace HBW := Lh (HBW.o.trans (hb7.mono HBW.o.size))
  replace HB2 := Lh (HB2.o.trans (hb7.mono HB2.o.size))
  clear hb7 hS0
  have hS0 := And.intro F_v.o (And.intro F_b.o F_c.o)
  refine hK.o _ _ (fun _ => hS0) ?_
  clear hK K
  try simp only [Act.put, sZ]
  refine wpAnyB_onlyG (i := 5) (some 45) (.call { callee := .value (.func 27), args := #[.tmp 43, .const (.int .u64 18), .const (.int .i64 2), .tmp 44], argTypes := #[49, 24, 3, 29] }) 32 (some (2, true)) ⟨_, rfl, rfl, rfl, rfl, rfl⟩ (by kernel_rfl) rfl (fun K hK => ?_)
  unfold bareOp
  refine OpW.out (wp_of_enter (run_call _ _ _ _ 27 Tryd.func27 (vs := #[.agg #[.int .u64 23, .int .u64 11, .int .u64 4], .int .u64 18, .int .i64 2, V.v]) (by simp only [List.map_toArray, List.map_cons, List.map_nil]; rfl) rfl (by kernel_rfl) (by kernel_rfl)) (check_s _ (HT2.o.below HB2.o) (HV.o.keep HB2.o) HVP.o) ?_)
  rintro e w10 ⟨rfl, hb10⟩
  refine ⟨_, rfl, ?_⟩
  replace F_v := Lh (F_v.o.keep hb10)
  replace F_b := Lh (F_b.o.keep hb10)
  replace F_c := Lh (F_c.o.keep hb10)
  replace HBW := Lh (HBW.o.trans (hb10.mono HBW.o.size))
  replace HB2 := Lh (HB2.o.trans (hb10.mono HB2.o.size))
  clear hb10 hS0
  have hS0 := And.intro F_v.o (And.intro F_b.o F_c.o)
  refine hK.o _ _ (fun _ => hS0) ?_
  clear hK K
  try simp only [Act.put, sZ]
  refine tkPG (i := 6) (some 46) (.binOp .eql 32 (.tmp 45) (.const (.int .i64 0)) 32) 4 (some (2, true)) (fun _ => hS0) ?_
  simp only [Act.put, sZ]
  refine tkP (i := 7) (some 47) (.pick (.tmp 42) (.tmp 46) (.const (.bool false))) 4 (fun _ => hS0) ?_
  simp only [Act.put, sZ]
  refine tkP (i := 8) (some 48) (.move (.tmp 47)) 4 (fun _ => hS0) ?_
  simp only [Act.put, sZ]
  refine tkPG (i := 9) (some 49) (.move (.tmp 5)) 32 (some (8, true)) (fun _ => hS0) ?_
  simp only [Act.put, sZ]
  refine tkPG (i := 10) (some 50) (.binOp .eql 32 (.tmp 49) (.const (.int .i64 0)) 32) 4 (some (8, true)) (fun _ => hS0) ?_
  simp only [Act.put, sZ]
  refine tkP (i := 11) (some 51) (.pick (.tmp 48) (.tmp 50) (.const (.bool false))) 4 (fun _ => hS0) ?_
  simp only [Act.put, sZ]
  refine tkP (i := 12) (some 52) (.move (.tmp 51)) 4 (fun _ => hS0) ?_
  simp only [Act.put, sZ]
  refine tkPG (i := 13) (some 53) (.move (.tmp 4)) 4 (some (12, true)) (fun _ => hS0) ?_
  simp only [Act.put, sZ]
  refine tkP (i := 14) (some 54) (.pick (.tmp 52) (.tmp 53) (.const (.bool false))) 4 (fun _ => hS0) ?_
  simp only [Act.put, sZ]
  refine tkP (i := 15) (some 55) (.move (.tmp 54)) 4 (fun _ => hS0) ?_
  simp only [Act.put, sZ]
  refine tkPG (i := 16) (some 56) (.move (.tmp 7)) 32 (some (15, true)) (fun _ => hS0) ?_
  simp only [Act.put, sZ]
  refine tkPG (i := 17) (some 57) (.binOp .eql 32 (.tmp 56) (.const (.int .i64 0)) 32) 4 (some (15, true)) (fun _ => hS0) ?_
  simp only [Act.put, sZ]
  refine tkP (i := 18) (some 58) (.pick (.tmp 55) (.tmp 57) (.const (.bool false))) 4 (fun _ => hS0) ?_
  simp only [Act.put, sZ]
  refine tkP (i := 19) (some 59) (.move (.tmp 58)) 4 (fun _ => hS0) ?_
  simp only [Act.put, sZ]
  refine tkPG (i := 20) (some 60) (.fieldAddr 53 (.tmp 6) 0) 0 (some (19, true)) (fun _ => hS0) ?_
  simp only [Act.put, sZ]
  refine tkLG (i := 21) (some 61) (.load 50 (.tmp 60)) 50 (some (19, true)) [22, 23, 24, 25, 26, 27, 28, 29, 30, 31, 32, 33, 34, 35, 36, 37, 38, 39, 40, 41] (v := ?_) hS0 (fun w' hSw => ?_) ?_
  rotate_left
  · obtain ⟨t1, t2, t3⟩ := hSw; obtain ⟨⟨q0, q1, q2, q3, q4, q5, q6, q7, q8, q9, q10⟩, -⟩ := t1.k11; have r0 := t2.c 0 _ rfl; have r1 := t3.c 1 _ rfl
    unfold bareOp; go_simp; try with_reducible rfl
  simp only [Act.put, sZ]
  refine tkPG (i := 22) (some 62) (.call { callee := .builtin .len, args := #[.tmp 61], argTypes := #[50] }) 3 (some (19, true)) (fun _ => hS0) ?_
  simp only [Act.put, sZ]
  refine tkPG (i := 23) (some 63) (.binOp .eql 3 (.tmp 62) (.const (.int .i64 1)) 3) 4 (some (19, true)) (fun _ => hS0) ?_
  simp only [Act.put, sZ]
  refine tkP (i := 24) (some 64) (.pick (.tmp 59) (.tmp 63) (.const (.bool false))) 4 (fun _ => hS0) ?_
  simp only [Act.put, sZ]
  refine tkP (i := 25) (some 65) (.move (.tmp 64)) 4 (fun _ => hS0) ?_
  simp only [Act.put, sZ]
  refine tkPG (i := 26) (some 66) (.move (.tmp 9)) 32 (some (25, true)) (fun _ => hS0) ?_
  simp only [Act.put, sZ]
  refine tkPG (i := 27) (some 67) (.binOp .eql 32 (.tmp 66) (.const (.int .i64 0)) 32) 4 (some (25, true)) (fun _ => hS0) ?_
  simp only [Act.put, sZ]
  refine tkP (i := 28) (some 68) (.pick (.tmp 65) (.tmp 67) (.const (.bool false))) 4 (fun _ => hS0) ?_
  simp only [Act.put, sZ]
  refine tkP (i := 29) (some 69) (.move (.tmp 68)) 4 (fun _ => hS0) ?_
  simp only [Act.put, sZ]
  refine tkPG (i := 30) (some 70) (.fieldAddr 53 (.tmp 8) 1) 0 (some (29, true)) (fun _ => hS0) ?_
  simp only [Act.put, sZ]
  refine tkLG (i := 31) (some 71) (.load 50 (.tmp 70)) 50 (some (29, true)) [32, 33, 34, 35, 36, 37, 38, 39, 40, 41] (v := ?_) hS0 (fun w' hSw => ?_) ?_
  rotate_left
  · obtain ⟨t1, t2, t3⟩ := hSw; obtain ⟨⟨q0, q1, q2, q3, q4, q5, q6, q7, q8, q9, q10⟩, -⟩ := t1.k11; have r0 := t2.c 0 _ rfl; have r1 := t3.c 1 _ rfl
    unfold bareOp; go_simp; try with_reducible rfl
  simp only [Act.put, sZ]
  refine tkPG (i := 32) (some 72) (.call { callee := .builtin .len, args := #[.tmp 71], argTypes := #[50] }) 3 (some (29, true)) (fun _ => hS0) ?_
  simp only [Act.put, sZ]
  refine tkPG (i := 33) (some 73) (.binOp .eql 3 (.tmp 72) (.const (.int .i64 1)) 3) 4 (some (29, true)) (fun _ => hS0) ?_
  simp only [Act.put, sZ]
  refine tkP (i := 34) (some 74) (.pick (.tmp 69) (.tmp 73) (.const (.bool false))) 4 (fun _ => hS0) ?_
  simp only [Act.put, sZ]
  refine tkP (i := 35) (some 75) (.move (.tmp 74)) 4 (fun _ => hS0) ?_
  simp only [Act.put, sZ]
  refine tkPG (i := 36) (some 76) (.fieldAddr 29 (.tmp 1) 0) 0 (some (35, true)) (fun _ => hS0) ?_
  simp only [Act.put, sZ]
  refine tkLG (i := 37) (some 77) (.load 22 (.tmp 76)) 22 (some (35, true)) [38, 39, 40, 41] (v := ?_) hS0 (fun w' hSw => ?_) ?_
  rotate_left
  · obtain ⟨t1, t2, t3⟩ := hSw; obtain ⟨⟨q0, q1, q2, q3, q4, q5, q6, q7, q8, q9, q10⟩, -⟩ := t1.k11; have r0 := t2.c 0 _ rfl; have r1 := t3.c 1 _ rfl
    unfold bareOp; go_simp; try with_reducible rfl
  simp only [Act.put, sZ]
  refine tkPG (i := 38) (some 78) (.call { callee := .builtin .len, args := #[.tmp 77], argTypes := #[22] }) 3 (some (35, true)) (fun _ => hS0) ?_
  simp only [Act.put, sZ]
  refine tkPG (i := 39) (some 79) (.binOp .eql 3 (.tmp 78) (.const (.int .i64 2)) 3) 4 (some (35, true)) (fun _ => hS0) ?_
  simp only [Act.put, sZ]
  refine tkP (i := 40) (some 80) (.pick (.tmp 75) (.tmp 79) (.const (.bool false))) 4 (fun _ => hS0) ?_
  simp only [Act.put, sZ]
  refine onl (i := 41) (some 0) (.assign (.tmp 80)) 4 (fun K hK => ?_)
  unfold bareOp
  go_wp2_with fail
  refine hK.o _ _ lt8 ?_
  clear hK K
  try simp only [Act.put, sZ]
  refine wpAnyB_done (by kernel_rfl) ?_ _
  go_wp2_with fail
  go_ret
  exact ⟨rfl, HBW.o⟩
open Go Go.RowKit Num Sha
structure Adm (P Q G y n : Int) (one : Bool) (B : Bo) (V : Vt) : Prop where
  chk : chkB P Q G y n = 0
  boo : boothP P Q G y n.toNat one B
  god : goodV P Q G y n.toNat one V
  new : V.cd ∉ cds (B.l ++ B.l')
theorem AdmS.adm {P Q G y n : Int} {one : Bool} {B : Bo} {V : Vt} {k : Int} (h : AdmS P Q G y n one B V k 0) : Adm P Q G y n one B V :=
  ⟨h.count.1, h.count.2.1, h.count.2.2.1, h.count.2.2.2.1⟩
def ErrB (e : Ending) : Prop := ∃ er : Int, er ≠ 0 ∧ e = .returned (.tuple #[.agg #[.slice none 0 0, .slice none 0 0, .slice none 0 0], .int .i64 er])
section
variable {P Q G y n : Int} {one : Bool} {B : Bo} {V : Vt} {R : Rv} (w : World) (hT : Tabs w) (hP : 0 ≤ P) (hQ : 0 ≤ Q) (hG : 0 ≤ G) (hy : 0 ≤ y) (hB : BoIn w B) (hs : BoSm B) (hV : VtIn w V) (hn9 : V.n ≤ 10000) (hm9 : V.m ≤ 10000)
include hT hP hQ hG hy hB hs hV hn9 hm9
theorem once_cast_no (hA : ¬ Adm P Q G y n one B V) :
    Calls Tryd.prog 19 #[.agg #[.int .u64 P, .int .u64 Q, .int .u64 G], .int .u64 y, .int .i64 n, .bool one, B.v, V.v] w fun e w' => ErrB e ∧ Below w.heap.size w w' := by
  refine (cast_any (P := P) (Q := Q) (G := G) (y := y) (n := n) (one := one) w hT hP hQ hG hy hB hs hV hn9 hm9).mono ?_
  rintro e w' ⟨hb, k, e', ha, ⟨h1, rfl⟩ | ⟨rfl, -⟩⟩
  · exact ⟨⟨_, h1, rfl⟩, hb⟩
  · exact absurd ha.adm hA
theorem once_cast_ok (hA : Adm P Q G y n one B V) (hf : B.n + B.m < 256) :
    Calls Tryd.prog 19 #[.agg #[.int .u64 P, .int .u64 Q, .int .u64 G], .int .u64 y, .int .i64 n, .bool one, B.v, V.v] w fun e w' => BackB w.heap.size w' (B.l ++ [V]) B.l' B.rs (B.n + 1) B.m B.k e ∧ Below w.heap.size w w' := by
  refine (cast_any (P := P) (Q := Q) (G := G) (y := y) (n := n) (one := one) w hT hP hQ hG hy hB hs hV hn9 hm9).mono ?_
  rintro e w' ⟨hb, k, e', ha, h⟩
  obtain ⟨h0, hk⟩ := ha.ok hA.chk hA.boo hA.god hA.new
  rcases h with ⟨h1, -⟩ | ⟨-, ⟨h1, -⟩ | ⟨-, h1⟩⟩
  · exact absurd h0 h1
  · rw [hk] at h1; omega
  · exact ⟨h1, hb⟩
theorem once_cast_seen (hc : chkB P Q G y n = 0) (hb : boothP P Q G y n.toNat one B) (hg : goodV P Q G y n.toNat one V) (hsn : V.cd ∈ cds (B.l ++ B.l')) :
    Calls Tryd.prog 19 #[.agg #[.int .u64 P, .int .u64 Q, .int .u64 G], .int .u64 y, .int .i64 n, .bool one, B.v, V.v] w fun e w' => e = .returned (.tuple #[.agg #[.slice none 0 0, .slice none 0 0, .slice none 0 0], .int .i64 361]) ∧ Below w.heap.size w w' := by
  refine (cast_any (P := P) (Q := Q) (G := G) (y := y) (n := n) (one := one) w hT hP hQ hG hy hB hs hV hn9 hm9).mono ?_
  rintro e w' ⟨hbl, k, e', ha, h⟩
  have h0 := ha.seen hc hb hg hsn
  rcases h with ⟨-, rfl⟩ | ⟨h1, -⟩
  · rw [h0]; exact ⟨rfl, hbl⟩
  · rw [h0] at h1; cases h1
variable (hR : RvIn w R) (hrn : R.n ≤ 1000) (hrm : R.m ≤ 1000)
include hR hrn hrm
theorem once_chal_no (hA : ¬ (Adm P Q G y n one B V ∧ rangeP Q n.toNat R ∧ matchP P G y n.toNat V R)) (hf : B.n + B.m < 256) :
    Calls Tryd.prog 20 #[.agg #[.int .u64 P, .int .u64 Q, .int .u64 G], .int .u64 y, .int .i64 n, .bool one, B.v, V.v, R.v] w fun e w' => ErrB e ∧ Below w.heap.size w w' := by
  refine (chal_any (P := P) (Q := Q) (G := G) (y := y) (n := n) (one := one) w hT hP hQ hG hy hB hs hV hR hn9 hm9 hrn hrm).mono ?_
  rintro e w' ⟨hb, k, e', ha, ⟨h1, rfl⟩ | ⟨rfl, ⟨-, rfl⟩ | ⟨h2, -⟩⟩⟩
  · exact ⟨⟨_, h1, rfl⟩, hb⟩
  · exact ⟨⟨_, by decide, rfl⟩, hb⟩
  · exact absurd ⟨ha.adm, h2⟩ hA
theorem once_chal_ok (hA : Adm P Q G y n one B V) (hM : rangeP Q n.toNat R ∧ matchP P G y n.toNat V R) (hf : B.n + B.m < 256) :
    Calls Tryd.prog 20 #[.agg #[.int .u64 P, .int .u64 Q, .int .u64 G], .int .u64 y, .int .i64 n, .bool one, B.v, V.v, R.v] w fun e w' => BackB w.heap.size w' B.l (B.l' ++ [V]) (B.rs ++ [R]) B.n (B.m + 1) (B.k + 1) e ∧ Below w.heap.size w w' := by
  refine (chal_any (P := P) (Q := Q) (G := G) (y := y) (n := n) (one := one) w hT hP hQ hG hy hB hs hV hR hn9 hm9 hrn hrm).mono ?_
  rintro e w' ⟨hb, k, e', ha, h⟩
  obtain ⟨h0, hk⟩ := ha.ok hA.chk hA.boo hA.god hA.new
  rcases h with ⟨h1, -⟩ | ⟨-, ⟨h1, -⟩ | ⟨-, ⟨h1, -⟩ | ⟨-, h1⟩⟩⟩
  · exact absurd h0 h1
  · exact absurd hM h1
  · rw [hk] at h1; omega
  · exact ⟨h1, hb⟩
theorem once_chal_seen (hc : chkB P Q G y n = 0) (hb : boothP P Q G y n.toNat one B) (hg : goodV P Q G y n.toNat one V) (hsn : V.cd ∈ cds (B.l ++ B.l')) :
    Calls Tryd.prog 20 #[.agg #[.int .u64 P, .int .u64 Q, .int .u64 G], .int .u64 y, .int .i64 n, .bool one, B.v, V.v, R.v] w fun e w' => e = .returned (.tuple #[.agg #[.slice none 0 0, .slice none 0 0, .slice none 0 0], .int .i64 361]) ∧ Below w.heap.size w w' := by
  refine (chal_any (P := P) (Q := Q) (G := G) (y := y) (n := n) (one := one) w hT hP hQ hG hy hB hs hV hR hn9 hm9 hrn hrm).mono ?_
  rintro e w' ⟨hbl, k, e', ha, h⟩
  have h0 := ha.seen hc hb hg hsn
  rcases h with ⟨-, rfl⟩ | ⟨h1, -⟩
  · rw [h0]; exact ⟨rfl, hbl⟩
  · rw [h0] at h1; cases h1
end
theorem once_valid {P Q G y n : Int} {one : Bool} {B : Bo} (w : World) (hT : Tabs w) (hP : 0 ≤ P) (hQ : 0 ≤ Q) (hG : 0 ≤ G) (hy : 0 ≤ y) (hB : BoIn w B) (hs : BoSm B) (hc : chkB P Q G y n = 0) (hb : boothP P Q G y n.toNat one B) :
    Calls Tryd.prog 21 #[.agg #[.int .u64 P, .int .u64 Q, .int .u64 G], .int .u64 y, .int .i64 n, .bool one, B.v] w fun e w' => e = .returned (.int .i64 0) ∧ Below w.heap.size w w' := by
  refine (bvalid_any (P := P) (Q := Q) (G := G) (y := y) (n := n) (one := one) w hT hP hQ hG hy hB hs).mono ?_
  rintro e w' ⟨⟨e', rfl, h⟩, hbl⟩
  rw [h.ok hc hb]
  exact ⟨rfl, hbl⟩
theorem small_of_keys {L M : List Vt} (h : L.map Vt.key = M.map Vt.key) (hs : ∀ V, V ∈ M → V.n ≤ 1000 ∧ V.m ≤ 1000) : ∀ V, V ∈ L → V.n ≤ 1000 ∧ V.m ≤ 1000 := by
 intro V hV
 obtain ⟨U, hU, e⟩ := keys_mem Vt.key h hV
 obtain ⟨e1, -, e3, -⟩ := Vt.same_of_key e
 have := hs U hU
 omega
theorem small_of_keysR {L M : List Rv} (h : L.map Rv.key = M.map Rv.key) (hs : ∀ V, V ∈ M → V.n ≤ 1000 ∧ V.m ≤ 1000) : ∀ V, V ∈ L → V.n ≤ 1000 ∧ V.m ≤ 1000 := by
 intro V hV
 obtain ⟨U, hU, e⟩ := keys_mem Rv.key h hV
 obtain ⟨e1, -, e3, -⟩ := Rv.same_of_key e
 have := hs U hU
 omega
theorem ShV.front {w : World} {a : Option Addr} {n : Nat} {l : List Vt} (h : ShV w a (n + 1) l) : ShV w a n (l.take n) := by
 rcases h with ⟨h, -⟩ | ⟨s, o, h0, h1, h2⟩
 · cases h
 · refine .inr ⟨s, o, h0, by rw [List.length_take]; omega, ⟨h2.lt, fun i hi k u hu => ?_, fun V hV => h2.ok V (List.mem_of_mem_take hV)⟩⟩
   rw [List.length_take] at hi
   refine h2.c i (by omega) k u ?_
   rw [List.getElem_take] at hu
   exact hu
theorem ShR.front {w : World} {a : Option Addr} {n : Nat} {l : List Rv} (h : ShR w a (n + 1) l) : ShR w a n (l.take n) := by
 rcases h with ⟨h, -⟩ | ⟨s, o, h0, h1, h2⟩
 · cases h
 · refine .inr ⟨s, o, h0, by rw [List.length_take]; omega, ⟨h2.lt, fun i hi k u hu => ?_, fun V hV => h2.ok V (List.mem_of_mem_take hV)⟩⟩
   rw [List.length_take] at hi
   refine h2.c i (by omega) k u ?_
   rw [List.getElem_take] at hu
   exact hu
theorem keys_front {α β : Type} (f : α → β) {L M : List α} {x : α} (h : L.map f = (M ++ [x]).map f) {n : Nat} (hn : M.length = n) : (L.take n).map f = M.map f := by
 rw [List.map_take, h, List.map_append, List.take_append_of_le_length (by rw [List.length_map, hn]; exact Nat.le_refl _), List.take_of_length_le (by rw [List.length_map, hn]; exact Nat.le_refl _)]
theorem keys_last {α β : Type} (f : α → β) {L M : List α} {x z : α} (h : L.map f = (M ++ [x]).map f) {n : Nat} (hn : M.length = n) (hz : L[n]? = some z) : f z = f x := by
 obtain ⟨y, hy, e⟩ := keys_get f h hz
 rw [List.getElem?_append_right (by omega)] at hy
 rw [show n - M.length = 0 by omega] at hy
 simp at hy
 rw [e, hy]
end Go.Proofs.YtlbldpkgnonbpaaDoor
