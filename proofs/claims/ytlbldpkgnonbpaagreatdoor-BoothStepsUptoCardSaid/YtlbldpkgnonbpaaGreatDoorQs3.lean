/- The reference's Twin of any booth. -/
import Derived.Test.YtlbldpkgnonbpaaGreatDoorQs2
set_option linter.unusedSimpArgs false
set_option linter.unusedVariables false
set_option maxRecDepth 100000
namespace Go.Proofs.YtlbldpkgnonbpaaGreatDoor
open Go Go.RowKit Num Sha
set_option maxHeartbeats 32000000 in
theorem rTwin_any {B : Bo} (w : World) (hB : BoIn w B) (hs : BoSm B) :
 Calls Tryz.prog 15 #[B.v] w fun e w' => TwR B w.heap.size e w' ∧ Below w.heap.size w w' := by
 have HB := Lh hB
 have HS := Lh hs
 have HLL := Lh (show B.l.length = B.n ∧ B.l'.length = B.m ∧ B.rs.length = B.k from ⟨hB.h1.len.symm, hB.h2.len.symm, hB.h3.len.symm⟩)
 obtain ⟨F_1, F_2, F_3, HBW⟩ := bx3 w [.slice B.a B.n B.c, .slice B.b B.m B.d, .slice B.e B.k B.f] 55 [.slice none 0 0, .slice none 0 0, .slice none 0 0] 55 [.slice none 0 0, .slice none 0 0, .slice none 0 0] 55
 have HZ := Lh (show (w.heap.size + 1 + 1 + 1) ≤ ((((w.alloc (.cells #[.slice B.a B.n B.c, .slice B.b B.m B.d, .slice B.e B.k B.f] 55)).alloc (.cells #[.slice none 0 0, .slice none 0 0, .slice none 0 0] 55)).alloc (.cells #[.slice none 0 0, .slice none 0 0, .slice none 0 0] 55))).heap.size by simp)
 have HLN := Lh (Nat.le_refl (w.heap.size + 1 + 1 + 1))
 clear hB hs
 unfold Bo.v
 go_enter Tryz.func15, Tryz.ntmps15
 go_wp2_with fail
 go_loopw [4] (fun c4 wr => ∃ (i : Nat) (v1 : Value), i ≤ B.n ∧ c4 = .int .i64 i ∧ Hid (Cl wr w.heap.size [.slice B.a B.n B.c, .slice B.b B.m B.d, .slice B.e B.k B.f]) ∧ Hid (Cl wr (w.heap.size + 1) [.slice none 0 0, .slice none 0 0, .slice none 0 0]) ∧ Hid (Cl wr (w.heap.size + 1 + 1) [v1, .slice none 0 0, .slice none 0 0]) ∧ Hid (RbV (w.heap.size + 1 + 1 + 1) v1 i (B.l.take i) wr) ∧ Hid (Below w.heap.size w wr) ∧ Hid ((w.heap.size + 1 + 1 + 1) ≤ wr.heap.size)) (fun c4 _ => B.n - (intOf c4).toNat)
 case atStart => exact ⟨0, .slice none 0 0, by omega, rfl, F_1.o, F_2.o, F_3.o, by rw [List.take_zero]; exact RbV.start _ _, HBW.o, HZ.o⟩
 case round =>
  clear F_1 F_2 F_3 HBW HZ 
  obtain ⟨i, v1, hi, rfl, F_1, F_2, F_3, HR1, HBW, HZ⟩ := hrel
  have hn1 : B.n ≤ 1000 := by have := HS.o.s1; have := HS.o.s2; omega
  have hwi : IntKind.i64.wrap ((i : Int) + 1) = (i : Int) + 1 := IntWalk.i64_in _ (by omega)
  have hi0 : (0 : Int) ≤ (i : Int) := by omega
  by_cases hlt : i < B.n
  case pos =>
   have hi2 : (i : Int) < (B.n : Int) := by omega
   have cV : Tryz.prog.cellsOf 33 = 11 := by kernel_rfl
   obtain ⟨s, o, V, hsa, hVL, hvc, hVin⟩ := (HB.o.keep HBW.o).h1.at i hlt
   have hVn : V.n ≤ 10000 ∧ V.m ≤ 10000 := by have := HS.o.s4 V (List.mem_append.2 (.inl (List.mem_of_getElem? hVL))); omega
   have HVN := Lh hVn
   have HVL := Lh hVL
   have HV := Lh hVin
   obtain ⟨Us, ho1, hu1, hk1⟩ := HR1.o
   obtain ⟨a8, c8, rfl⟩ := own_slice ho1
   have HO1 := Lh ho1
   have HU1 := Lh hu1
   have HK1 := Lh hk1
   clear hVL hVin hVn ho1 hu1 hk1 HR1
   rw [hsa] at F_1 ⊢
   clear hsa
   have a0 := F_1.o.c 0 _ rfl
   go_wp2_with fail
   clear a0
   have F_x := Lh hvc
   clear hvc
   have HY := Lh (Below.refl wr.heap.size wr)
   have F_1y := F_1
   have F_2y := F_2
   have F_3y := F_3
   have HOy := HO1
   have HUy := HU1
   have HBy := HBW
   have HZy := HZ
   replace F_x := Lh (F_x.o.keep (Below.refl _ _).drew)
   replace F_1y := Lh F_1y.o.drew
   replace F_2y := Lh F_2y.o.drew
   replace F_3y := Lh F_3y.o.drew
   have hS0 := And.intro F_x.o F_1y.o
   refine wp_region_stage 7 (fun w' => VCells w' s (o + i * 11) V ∧ Cl w' w.heap.size [.slice (some ⟨s, o, none⟩) B.n B.c, .slice B.b B.m B.d, .slice B.e B.k B.f]) (by kernel_rfl) ?_
   refine tkP (i := 0) (some 14) (.fieldAddr 55 (.tmp 3) 0) 0 (fun _ => hS0) ?_
   simp only [sY]
   refine tkP (i := 2) (some 16) (.fieldAddr 55 (.tmp 1) 0) 0 (fun _ => hS0) ?_
   simp only [sY]
   refine tkL (i := 3) (some 17) (.load 52 (.tmp 16)) 52 [5, 6, 7] (v := ?_) hS0 (fun w' hSw => ?_) ?_
   rotate_left
   · obtain ⟨t1, t2⟩ := hSw; obtain ⟨-, e0, e1, e2, e3, e4, e5, e6, e7, e8, e9, e10⟩ := t1; have a0 := t2.c 0 _ rfl
     unfold bareOp; go_simp; try with_reducible rfl
   simp only [sY]
   refine tkP (i := 4) (some 18) (.move (.tmp 4)) 3 (fun _ => hS0) ?_
   simp only [sY]
   refine tkP (i := 5) (some 19) (.indexAddr 52 (.tmp 17) (.tmp 18)) 0 (fun _ => hS0) ?_
   simp only [sY]
   refine tkL (i := 6) (some 20) (.load 33 (.tmp 19)) 33 [7] (v := ?_) hS0 (fun w' hSw => ?_) ?_
   rotate_left
   · obtain ⟨t1, t2⟩ := hSw; obtain ⟨-, e0, e1, e2, e3, e4, e5, e6, e7, e8, e9, e10⟩ := t1; have a0 := t2.c 0 _ rfl
     unfold bareOp; go_simp; try with_reducible rfl
   simp only [sY]
   refine wpAnyB_cloud0 (fuel := 3) [(1, 15), (7, 21), (8, 22)] [] (fun y w' => VCells w' s (o + i * 11) V ∧ Cl w' w.heap.size [.slice (some ⟨s, o, none⟩) B.n B.c, .slice B.b B.m B.d, .slice B.e B.k B.f] ∧ Cl w' (w.heap.size + 1) [.slice none 0 0, .slice none 0 0, .slice none 0 0] ∧ Cl w' (w.heap.size + 1 + 1) [.slice a8 i c8, .slice none 0 0, .slice none 0 0] ∧ Below wr.heap.size wr w' ∧ (∀ v, y 1 = some v → v = .slice a8 i c8) ∧ (∀ v, y 7 = some v → ∃ U : Vt, v = U.v ∧ VtIn w' U ∧ SameV U V ∧ highB U.a U.n wr.heap.size ∧ highB U.b U.m wr.heap.size) ∧ (∀ v, y 8 = some v → ∃ (b : Nat) (U : Vt), v = .slice (some ⟨b, 0, none⟩) 1 1 ∧ Cl w' b U.vs ∧ VtIn w' U ∧ SameV U V ∧ highB U.a U.n wr.heap.size ∧ highB U.b U.m wr.heap.size)) rfl (by decide) (by decide) (by kernel_rfl) (by kernel_rfl) (by kernel_rfl) (fun _ _ _ _ _ h => h) (fun y w' hI => ⟨hI.1, hI.2.1⟩) ⟨hS0.1, F_1y.o, F_2y.o, F_3y.o, (Below.refl _ _).drew, fun v h => (by cases h), fun v h => (by cases h), fun v h => (by cases h)⟩ ?_ ?_
   · intro p hp y w8 hyn hy hrd hI
     obtain ⟨hfx, hf1, hf2, hf3, hbl, hq1, hq7, hq8⟩ := hI
     simp only [List.mem_cons, List.not_mem_nil, or_false] at hp
     rcases hp with rfl | rfl | rfl
     · refine takeN (by kernel_rfl) (wpOp_bare (some 15) (Op.load 52 (Operand.tmp 14)) 52 ⟨_, rfl, rfl, rfl, rfl, rfl⟩ (fun K hK => ?_))
       refine wp_of_run (run_ld_votes _ _ _ _ (.tmp 14) ((eval_putC_not _ _ 14 (by decide)).trans rfl) (hf3.c 0 _ rfl)) (hK.o _ _ ⟨_, rfl, ?_⟩)
       refine ⟨hfx, hf1, hf2, hf3, hbl, ?_, ?_, ?_⟩
       · exact fun v hv => (uS hv).symm
       · exact fun v hv => hq7 v (uN hv)
       · exact fun v hv => hq8 v (uN hv)
     · refine takeN (by kernel_rfl) (wpOp_bare (some 21) (Op.call { callee := Callee.value (Operand.func 44), args := #[Operand.tmp 20], argTypes := #[33] }) 33 ⟨_, rfl, rfl, rfl, rfl, rfl⟩ (fun K hK => ?_))
       refine wp_of_enter (run_call _ _ _ _ 44 Tryz.func44 (vs := #[V.v]) ?hv rfl (by kernel_rfl) (by kernel_rfl)) (rTwinVote_any (V := V) w8 (HV.o.keep hbl) HVN.o.1 HVN.o.2) ?_
       case hv =>
        simp only [List.map_toArray, List.map_cons, List.map_nil]
        rw [eval_putC_not _ _ 20 (by decide)]
        rfl
       rintro e w9 ⟨U, rfl, hU9, hS9, hh1, hh2, hb9⟩
       refine ⟨_, rfl, hK.o _ _ ⟨_, rfl, ?_⟩⟩
       refine ⟨hfx.keep hb9, hf1.keep hb9, hf2.keep hb9, hf3.keep hb9, hbl.trans (hb9.mono hbl.size), ?_, ?_, ?_⟩
       · exact fun v hv => hq1 v (uN hv)
       · intro v hv; rw [updC_same] at hv; cases hv; exact ⟨U, rfl, hU9, hS9, hh1.mono hbl.size, hh2.mono hbl.size⟩
       · intro v hv; have h := hq8 v (uN hv); obtain ⟨b, U, h1, h2, h3, h4⟩ := h; exact ⟨b, U, h1, h2.keep hb9, h3.keep hb9, h4⟩
     · refine takeN (by kernel_rfl) (wpOp_bare (some 22) (Op.buildSlice 52 1 #[(0, Operand.tmp 21)]) 52 ⟨_, rfl, rfl, rfl, rfl, rfl⟩ (fun K hK => ?_))
       obtain ⟨v7, hv7⟩ := depC hy (j := 7) (d := 21) (by simp) hrd rfl (by kernel_rfl)
       obtain ⟨U, rfl, hU9, hS9, hh1, hh2⟩ := hq7 v7 hv7
       refine wp_of_run (run_lit_vote _ _ _ _ (.tmp 21) U (eval_putC _ _ (j := 7) (d := 21) (by simp) (by decide) hv7 (of_decide_eq_true (by kernel_rfl)))) (hK.o _ _ ⟨_, rfl, ?_⟩)
       refine ⟨hfx.keep ((Below.refl _ _).alloc (Nat.le_refl _) _), hf1.alloc _, hf2.alloc _, hf3.alloc _, hbl.alloc hbl.size _, ?_, ?_, ?_⟩
       · exact fun v hv => hq1 v (uN hv)
       · intro v hv; have h := hq7 v (uN hv); obtain ⟨U, h1, h2, h3⟩ := h; exact ⟨U, h1, h2.keep ((Below.refl _ _).alloc (Nat.le_refl _) _), h3⟩
       · intro v hv; rw [updC_same] at hv; cases hv; exact ⟨w8.heap.size, U, rfl, Cl.at w8 U.vs _ _ rfl, hU9.keep ((Below.refl _ _).alloc (Nat.le_refl _) _), hS9, hh1, hh2⟩
   intro y w9 hall hI
   obtain ⟨hfx, hf1, hf2, hf3, hbl, hq1, hq7, hq8⟩ := hI
   obtain ⟨v1, hv1⟩ := Option.isSome_iff_exists.1 (hall (1, 15) (by simp))
   obtain ⟨v7, hv7⟩ := Option.isSome_iff_exists.1 (hall (7, 21) (by simp))
   obtain ⟨v8, hv8⟩ := Option.isSome_iff_exists.1 (hall (8, 22) (by simp))
   clear hall
   obtain rfl := hq1 v1 hv1
   obtain ⟨U0, rfl, -⟩ := hq7 v7 hv7
   obtain ⟨b9, U, rfl, hL9, hU9, hS9, hh1, hh2⟩ := hq8 v8 hv8
   have HL9 := Lh hL9
   have HU9 := Lh hU9
   have HS9 := Lh hS9
   have HH9 := Lh (And.intro hh1 hh2)
   have F_19 := Lh hf1
   have F_29 := Lh hf2
   have F_39 := Lh hf3
   have HB9 := Lh hbl
   have hS0 := And.intro hfx hf1
   clear hL9 hU9 hS9 hh1 hh2 hfx hf1 hf2 hf3 hbl hq1 hq7 hq8
   simp only [putC, setAll, Act.put, sZ, Option.getD_some, hv1, hv7, hv8]
   clear hv1 hv7 hv8
   refine onl (i := 9) (some 23) (.call { callee := .builtin .append, args := #[.tmp 15, .tmp 22], argTypes := #[52, 52] }) 52 (fun K hK => ?_)
   unfold bareOp
   have HOa := Lh (owns_below2 HOy.o HB9.o)
   have HZa := Lh (show (w.heap.size + 1 + 1 + 1) ≤ w9.heap.size from Nat.le_trans HZy.o HB9.o.size)
   have HUa := Lh (show ∀ U, U ∈ Us → VtOff w9 U (Value.slice a8 i c8).ownBlock ∧ highB U.a U.n (w.heap.size + 1 + 1 + 1) ∧ highB U.b U.m (w.heap.size + 1 + 1 + 1) from fun U hU => ⟨(HUy.o U hU).1.keep HB9.o, (HUy.o U hU).2⟩)
   refine wp_push_v2 (.tmp 15) (.tmp 22) rfl (w.heap.size + 1 + 1 + 1) i b9 (.slice a8 i c8) (Us.flatMap Vt.vs) U rfl rfl HOa.o (fun q u hq => by rw [add_pl, Nat.zero_add]; exact HL9.o.c q u hq) (by omega) HZa.o ?_
   intro v10 w10 hown hgr hwh
   obtain ⟨a10, c10, rfl⟩ := own_slice hown
   have HBa := Lh (Below.rowT (n := (w.heap.size + 1 + 1 + 1)) hgr (fun k hk => Nat.le_trans HLN.o (HOa.o.lt k hk).1) (Nat.le_trans HLN.o HZa.o))
   have HO10 := Lh hown
   have HG10 := Lh hgr
   have HW10 := Lh hwh
   have F_1z := Lh (F_19.o.keepN HBa.o (by omega))
   have F_2z := Lh (F_29.o.keepN HBa.o (by omega))
   have F_3z := Lh (F_39.o.keepN HBa.o (by omega))
   clear hown hgr hwh hS0
   refine hK.o _ _ lt8 ?_
   clear hK K
   try simp only [sY]
   refine tkP (i := 10) (some 24) (.fieldAddr 55 (.tmp 3) 0) 0 lt8 ?_
   simp only [sY]
   refine onl (i := 11) none (.store 52 (.tmp 24) (.tmp 23)) 0 (fun K hK => ?_)
   unfold bareOp
   have q0 := F_3z.o.c 0 _ rfl
   have f0 := F_3z.o.f 0
   go_wp2_with fail
   refine hK.o _ _ lt8 ?_
   clear hK K
   try simp only [sY]
   refine wpAnyB_done (by kernel_rfl) ?_ _
   go_wp2_with fail
   go_roundw
   case rel =>
    have hlow : ∀ g, (Value.slice a8 i c8).ownBlock = some g → g < wr.heap.size := fun g hg => (HOy.o.lt g hg).2
    refine ⟨i + 1, .slice a10 (i + 1) c10, by omega, by go_num, F_1z.o.far ⟨(w.heap.size + 1 + 1), 0, none⟩ _ (by simp <;> omega), F_2z.o.far ⟨(w.heap.size + 1 + 1), 0, none⟩ _ (by simp <;> omega), F_3z.o.set (m := [.slice a10 (i + 1) c10, .slice none 0 0, .slice none 0 0]) 0 (.slice a10 (i + 1) c10) (by simp) rfl, (RbV.push HO10.o HG10.o HW10.o HUa.o ⟨HU9.o, HH9.o.1.off hlow, HH9.o.2.off hlow⟩ (HH9.o.1.mono HZy.o) (HH9.o.2.mono HZy.o) HK1.o HVL.o HS9.o.key).box (by have := HLN.o; simp <;> omega) (F_3z.o.c 0 _ rfl), ?_, ?_⟩
    · exact ((HBy.o.trans (HB9.o.mono HBy.o.size)).trans (HBa.o.mono (by omega) : Below (w.heap.size) w9 w10)).setCell (by simp <;> omega) _
    · exact (show (w.heap.size + 1 + 1 + 1) ≤ _ by rw [World.size_setCell]; exact Nat.le_trans HZa.o HG10.o.size)
   case measure => simp [intOf] <;> omega
  case neg =>
   have hd : decide ((i : Int) < (B.n : Int)) = false := decide_eq_false (by omega)
   have hd' : ¬ ((i : Int) < (B.n : Int)) := by omega
   obtain ⟨a1, c1, rfl⟩ := own_slice HR1.o.choose_spec.1
   have a0 := F_1.o.c 0 _ rfl
   obtain ⟨wp, rfl⟩ : ∃ x, x = wr := ⟨_, rfl⟩
   obtain ⟨N1, hNn⟩ : ∃ N, wp.heap.size = N := ⟨_, rfl⟩
   have HF1 := Lh (show RdV (w.heap.size + 1 + 1 + 1) N1 (.slice a1 B.n c1) B.n B.l wp from by
    have h := HR1.o.full
    have e : i = B.n := by omega
    subst e
    rw [hNn, List.take_of_length_le (by have := HLL.o; omega)] at h
    exact h)
   obtain rfl : i = B.n := by omega
   have HZ0 := Lh HZ.o
   replace HZ := Lh (show N1 ≤ wp.heap.size from Nat.le_of_eq hNn.symm)
   have HNB := Lh (show (w.heap.size + 1 + 1 + 1) ≤ N1 by have := HLN.o; have := HZ0.o; omega)
   replace HLN := Lh (show (w.heap.size + 1 + 1 + 1) ≤ N1 by have := HLN.o; have := HZ0.o; omega)
   clear hNn HR1
   go_wp2_with fail
   clear a0 hd hd'
   go_loopw [5] (fun c5 wr => ∃ (i : Nat) (v1 : Value), i ≤ B.m ∧ c5 = .int .i64 i ∧ Hid (Cl wr w.heap.size [.slice B.a B.n B.c, .slice B.b B.m B.d, .slice B.e B.k B.f]) ∧ Hid (Cl wr (w.heap.size + 1) [.slice none 0 0, .slice none 0 0, .slice none 0 0]) ∧ Hid (Cl wr (w.heap.size + 1 + 1) [.slice a1 B.n c1, v1, .slice none 0 0]) ∧ Hid (RbV N1 v1 i (B.l'.take i) wr) ∧ Hid (RdV (w.heap.size + 1 + 1 + 1) N1 (.slice a1 B.n c1) B.n B.l wr) ∧ Hid (Below w.heap.size w wr) ∧ Hid (N1 ≤ wr.heap.size)) (fun c5 _ => B.m - (intOf c5).toNat)
   case atStart => exact ⟨0, .slice none 0 0, by omega, rfl, F_1.o, F_2.o, F_3.o, by rw [List.take_zero]; exact RbV.start _ _, HF1.o, HBW.o, HZ.o⟩
   case round =>
    clear F_1 F_2 F_3 HBW HZ HF1
    obtain ⟨i, v1, hi, rfl, F_1, F_2, F_3, HR1, HF1, HBW, HZ⟩ := hrel
    have hn1 : B.m ≤ 1000 := by have := HS.o.s1; have := HS.o.s2; omega
    have hwi : IntKind.i64.wrap ((i : Int) + 1) = (i : Int) + 1 := IntWalk.i64_in _ (by omega)
    have hi0 : (0 : Int) ≤ (i : Int) := by omega
    by_cases hlt : i < B.m
    case pos =>
     have hi2 : (i : Int) < (B.m : Int) := by omega
     have cV : Tryz.prog.cellsOf 33 = 11 := by kernel_rfl
     obtain ⟨s, o, V, hsa, hVL, hvc, hVin⟩ := (HB.o.keep HBW.o).h2.at i hlt
     have hVn : V.n ≤ 10000 ∧ V.m ≤ 10000 := by have := HS.o.s4 V (List.mem_append.2 (.inr (List.mem_of_getElem? hVL))); omega
     have HVN := Lh hVn
     have HVL := Lh hVL
     have HV := Lh hVin
     obtain ⟨Us, ho1, hu1, hk1⟩ := HR1.o
     obtain ⟨a8, c8, rfl⟩ := own_slice ho1
     have HO1 := Lh ho1
     have HU1 := Lh hu1
     have HK1 := Lh hk1
     clear hVL hVin hVn ho1 hu1 hk1 HR1
     rw [hsa] at F_1 ⊢
     clear hsa
     have a0 := F_1.o.c 1 _ rfl
     go_wp2_with fail
     clear a0
     have F_x := Lh hvc
     clear hvc
     have HY := Lh (Below.refl wr.heap.size wr)
     have F_1y := F_1
     have F_2y := F_2
     have F_3y := F_3
     have HOy := HO1
     have HUy := HU1
     have HBy := HBW
     have HZy := HZ
     replace F_x := Lh (F_x.o.keep (Below.refl _ _).drew)
     replace F_1y := Lh F_1y.o.drew
     replace F_2y := Lh F_2y.o.drew
     replace F_3y := Lh F_3y.o.drew
     have hS0 := And.intro F_x.o F_1y.o
     refine wp_region_stage 7 (fun w' => VCells w' s (o + i * 11) V ∧ Cl w' w.heap.size [.slice B.a B.n B.c, .slice (some ⟨s, o, none⟩) B.m B.d, .slice B.e B.k B.f]) (by kernel_rfl) ?_
     refine tkP (i := 0) (some 32) (.fieldAddr 55 (.tmp 3) 1) 0 (fun _ => hS0) ?_
     simp only [sY]
     refine tkP (i := 2) (some 34) (.fieldAddr 55 (.tmp 1) 1) 0 (fun _ => hS0) ?_
     simp only [sY]
     refine tkL (i := 3) (some 35) (.load 52 (.tmp 34)) 52 [5, 6, 7] (v := ?_) hS0 (fun w' hSw => ?_) ?_
     rotate_left
     · obtain ⟨t1, t2⟩ := hSw; obtain ⟨-, e0, e1, e2, e3, e4, e5, e6, e7, e8, e9, e10⟩ := t1; have a1 := t2.c 1 _ rfl
       unfold bareOp; go_simp; try with_reducible rfl
     simp only [sY]
     refine tkP (i := 4) (some 36) (.move (.tmp 5)) 3 (fun _ => hS0) ?_
     simp only [sY]
     refine tkP (i := 5) (some 37) (.indexAddr 52 (.tmp 35) (.tmp 36)) 0 (fun _ => hS0) ?_
     simp only [sY]
     refine tkL (i := 6) (some 38) (.load 33 (.tmp 37)) 33 [7] (v := ?_) hS0 (fun w' hSw => ?_) ?_
     rotate_left
     · obtain ⟨t1, t2⟩ := hSw; obtain ⟨-, e0, e1, e2, e3, e4, e5, e6, e7, e8, e9, e10⟩ := t1; have a1 := t2.c 1 _ rfl
       unfold bareOp; go_simp; try with_reducible rfl
     simp only [sY]
     refine wpAnyB_cloud0 (fuel := 3) [(1, 33), (7, 39), (8, 40)] [] (fun y w' => VCells w' s (o + i * 11) V ∧ Cl w' w.heap.size [.slice B.a B.n B.c, .slice (some ⟨s, o, none⟩) B.m B.d, .slice B.e B.k B.f] ∧ Cl w' (w.heap.size + 1) [.slice none 0 0, .slice none 0 0, .slice none 0 0] ∧ Cl w' (w.heap.size + 1 + 1) [.slice a1 B.n c1, .slice a8 i c8, .slice none 0 0] ∧ Below wr.heap.size wr w' ∧ (∀ v, y 1 = some v → v = .slice a8 i c8) ∧ (∀ v, y 7 = some v → ∃ U : Vt, v = U.v ∧ VtIn w' U ∧ SameV U V ∧ highB U.a U.n wr.heap.size ∧ highB U.b U.m wr.heap.size) ∧ (∀ v, y 8 = some v → ∃ (b : Nat) (U : Vt), v = .slice (some ⟨b, 0, none⟩) 1 1 ∧ Cl w' b U.vs ∧ VtIn w' U ∧ SameV U V ∧ highB U.a U.n wr.heap.size ∧ highB U.b U.m wr.heap.size)) rfl (by decide) (by decide) (by kernel_rfl) (by kernel_rfl) (by kernel_rfl) (fun _ _ _ _ _ h => h) (fun y w' hI => ⟨hI.1, hI.2.1⟩) ⟨hS0.1, F_1y.o, F_2y.o, F_3y.o, (Below.refl _ _).drew, fun v h => (by cases h), fun v h => (by cases h), fun v h => (by cases h)⟩ ?_ ?_
     · intro p hp y w8 hyn hy hrd hI
       obtain ⟨hfx, hf1, hf2, hf3, hbl, hq1, hq7, hq8⟩ := hI
       simp only [List.mem_cons, List.not_mem_nil, or_false] at hp
       rcases hp with rfl | rfl | rfl
       · refine takeN (by kernel_rfl) (wpOp_bare (some 33) (Op.load 52 (Operand.tmp 32)) 52 ⟨_, rfl, rfl, rfl, rfl, rfl⟩ (fun K hK => ?_))
         refine wp_of_run (run_ld_votes _ _ _ _ (.tmp 32) ((eval_putC_not _ _ 32 (by decide)).trans rfl) (hf3.c 1 _ rfl)) (hK.o _ _ ⟨_, rfl, ?_⟩)
         refine ⟨hfx, hf1, hf2, hf3, hbl, ?_, ?_, ?_⟩
         · exact fun v hv => (uS hv).symm
         · exact fun v hv => hq7 v (uN hv)
         · exact fun v hv => hq8 v (uN hv)
       · refine takeN (by kernel_rfl) (wpOp_bare (some 39) (Op.call { callee := Callee.value (Operand.func 44), args := #[Operand.tmp 38], argTypes := #[33] }) 33 ⟨_, rfl, rfl, rfl, rfl, rfl⟩ (fun K hK => ?_))
         refine wp_of_enter (run_call _ _ _ _ 44 Tryz.func44 (vs := #[V.v]) ?hv rfl (by kernel_rfl) (by kernel_rfl)) (rTwinVote_any (V := V) w8 (HV.o.keep hbl) HVN.o.1 HVN.o.2) ?_
         case hv =>
          simp only [List.map_toArray, List.map_cons, List.map_nil]
          rw [eval_putC_not _ _ 38 (by decide)]
          rfl
         rintro e w9 ⟨U, rfl, hU9, hS9, hh1, hh2, hb9⟩
         refine ⟨_, rfl, hK.o _ _ ⟨_, rfl, ?_⟩⟩
         refine ⟨hfx.keep hb9, hf1.keep hb9, hf2.keep hb9, hf3.keep hb9, hbl.trans (hb9.mono hbl.size), ?_, ?_, ?_⟩
         · exact fun v hv => hq1 v (uN hv)
         · intro v hv; rw [updC_same] at hv; cases hv; exact ⟨U, rfl, hU9, hS9, hh1.mono hbl.size, hh2.mono hbl.size⟩
         · intro v hv; have h := hq8 v (uN hv); obtain ⟨b, U, h1, h2, h3, h4⟩ := h; exact ⟨b, U, h1, h2.keep hb9, h3.keep hb9, h4⟩
       · refine takeN (by kernel_rfl) (wpOp_bare (some 40) (Op.buildSlice 52 1 #[(0, Operand.tmp 39)]) 52 ⟨_, rfl, rfl, rfl, rfl, rfl⟩ (fun K hK => ?_))
         obtain ⟨v7, hv7⟩ := depC hy (j := 7) (d := 39) (by simp) hrd rfl (by kernel_rfl)
         obtain ⟨U, rfl, hU9, hS9, hh1, hh2⟩ := hq7 v7 hv7
         refine wp_of_run (run_lit_vote _ _ _ _ (.tmp 39) U (eval_putC _ _ (j := 7) (d := 39) (by simp) (by decide) hv7 (of_decide_eq_true (by kernel_rfl)))) (hK.o _ _ ⟨_, rfl, ?_⟩)
         refine ⟨hfx.keep ((Below.refl _ _).alloc (Nat.le_refl _) _), hf1.alloc _, hf2.alloc _, hf3.alloc _, hbl.alloc hbl.size _, ?_, ?_, ?_⟩
         · exact fun v hv => hq1 v (uN hv)
         · intro v hv; have h := hq7 v (uN hv); obtain ⟨U, h1, h2, h3⟩ := h; exact ⟨U, h1, h2.keep ((Below.refl _ _).alloc (Nat.le_refl _) _), h3⟩
         · intro v hv; rw [updC_same] at hv; cases hv; exact ⟨w8.heap.size, U, rfl, Cl.at w8 U.vs _ _ rfl, hU9.keep ((Below.refl _ _).alloc (Nat.le_refl _) _), hS9, hh1, hh2⟩
     intro y w9 hall hI
     obtain ⟨hfx, hf1, hf2, hf3, hbl, hq1, hq7, hq8⟩ := hI
     obtain ⟨v1, hv1⟩ := Option.isSome_iff_exists.1 (hall (1, 33) (by simp))
     obtain ⟨v7, hv7⟩ := Option.isSome_iff_exists.1 (hall (7, 39) (by simp))
     obtain ⟨v8, hv8⟩ := Option.isSome_iff_exists.1 (hall (8, 40) (by simp))
     clear hall
     obtain rfl := hq1 v1 hv1
     obtain ⟨U0, rfl, -⟩ := hq7 v7 hv7
     obtain ⟨b9, U, rfl, hL9, hU9, hS9, hh1, hh2⟩ := hq8 v8 hv8
     have HL9 := Lh hL9
     have HU9 := Lh hU9
     have HS9 := Lh hS9
     have HH9 := Lh (And.intro hh1 hh2)
     have F_19 := Lh hf1
     have F_29 := Lh hf2
     have F_39 := Lh hf3
     have HB9 := Lh hbl
     have hS0 := And.intro hfx hf1
     clear hL9 hU9 hS9 hh1 hh2 hfx hf1 hf2 hf3 hbl hq1 hq7 hq8
     simp only [putC, setAll, Act.put, sZ, Option.getD_some, hv1, hv7, hv8]
     clear hv1 hv7 hv8
     refine onl (i := 9) (some 41) (.call { callee := .builtin .append, args := #[.tmp 33, .tmp 40], argTypes := #[52, 52] }) 52 (fun K hK => ?_)
     unfold bareOp
     have HOa := Lh (owns_below2 HOy.o HB9.o)
     have HZa := Lh (show N1 ≤ w9.heap.size from Nat.le_trans HZy.o HB9.o.size)
     have HUa := Lh (show ∀ U, U ∈ Us → VtOff w9 U (Value.slice a8 i c8).ownBlock ∧ highB U.a U.n N1 ∧ highB U.b U.m N1 from fun U hU => ⟨(HUy.o U hU).1.keep HB9.o, (HUy.o U hU).2⟩)
     refine wp_push_v2 (.tmp 33) (.tmp 40) rfl N1 i b9 (.slice a8 i c8) (Us.flatMap Vt.vs) U rfl rfl HOa.o (fun q u hq => by rw [add_pl, Nat.zero_add]; exact HL9.o.c q u hq) (by omega) HZa.o ?_
     intro v10 w10 hown hgr hwh
     obtain ⟨a10, c10, rfl⟩ := own_slice hown
     have HBa := Lh (Below.rowT (n := (w.heap.size + 1 + 1 + 1)) hgr (fun k hk => Nat.le_trans HLN.o (HOa.o.lt k hk).1) (Nat.le_trans HLN.o HZa.o))
     have HO10 := Lh hown
     have HG10 := Lh hgr
     have HW10 := Lh hwh
     have F_1z := Lh (F_19.o.keepN HBa.o (by omega))
     have F_2z := Lh (F_29.o.keepN HBa.o (by omega))
     have F_3z := Lh (F_39.o.keepN HBa.o (by omega))
     have HF1z := Lh (show RdV (w.heap.size + 1 + 1 + 1) N1 (.slice a1 B.n c1) B.n B.l w10 from (HF1.o.keep (HY.o.trans (HB9.o.mono HY.o.size))).grown HG10.o (fun g hg => .inr (Nat.le_trans (Nat.le_refl _) (HOa.o.lt g hg).1)))
     clear hown hgr hwh hS0
     refine hK.o _ _ lt8 ?_
     clear hK K
     try simp only [sY]
     refine tkP (i := 10) (some 42) (.fieldAddr 55 (.tmp 3) 1) 0 lt8 ?_
     simp only [sY]
     refine onl (i := 11) none (.store 52 (.tmp 42) (.tmp 41)) 0 (fun K hK => ?_)
     unfold bareOp
     have q0 := F_3z.o.c 1 _ rfl
     have f0 := F_3z.o.f 1
     go_wp2_with fail
     refine hK.o _ _ lt8 ?_
     clear hK K
     try simp only [sY]
     refine wpAnyB_done (by kernel_rfl) ?_ _
     go_wp2_with fail
     go_roundw
     case rel =>
      have hlow : ∀ g, (Value.slice a8 i c8).ownBlock = some g → g < wr.heap.size := fun g hg => (HOy.o.lt g hg).2
      refine ⟨i + 1, .slice a10 (i + 1) c10, by omega, by go_num, F_1z.o.far ⟨(w.heap.size + 1 + 1), 1, none⟩ _ (by simp <;> omega), F_2z.o.far ⟨(w.heap.size + 1 + 1), 1, none⟩ _ (by simp <;> omega), F_3z.o.set (m := [.slice a1 B.n c1, .slice a10 (i + 1) c10, .slice none 0 0]) 1 (.slice a10 (i + 1) c10) (by simp) rfl, (RbV.push HO10.o HG10.o HW10.o HUa.o ⟨HU9.o, HH9.o.1.off hlow, HH9.o.2.off hlow⟩ (HH9.o.1.mono HZy.o) (HH9.o.2.mono HZy.o) HK1.o HVL.o HS9.o.key).box (by have := HLN.o; simp <;> omega) (F_3z.o.c 1 _ rfl), HF1z.o.box (by have := HLN.o; have := HNB.o; simp <;> omega) (F_3z.o.c 1 _ rfl), ?_, ?_⟩
      · exact ((HBy.o.trans (HB9.o.mono HBy.o.size)).trans (HBa.o.mono (by omega) : Below (w.heap.size) w9 w10)).setCell (by simp <;> omega) _
      · exact (show N1 ≤ _ by rw [World.size_setCell]; exact Nat.le_trans HZa.o HG10.o.size)
     case measure => simp [intOf] <;> omega
    case neg =>
     have hd : decide ((i : Int) < (B.m : Int)) = false := decide_eq_false (by omega)
     have hd' : ¬ ((i : Int) < (B.m : Int)) := by omega
     obtain ⟨a2, c2, rfl⟩ := own_slice HR1.o.choose_spec.1
     have a0 := F_1.o.c 1 _ rfl
     obtain ⟨wp, rfl⟩ : ∃ x, x = wr := ⟨_, rfl⟩
     obtain ⟨N2, hNn⟩ : ∃ N, wp.heap.size = N := ⟨_, rfl⟩
     have HF2 := Lh (show RdV N1 N2 (.slice a2 B.m c2) B.m B.l' wp from by
      have h := HR1.o.full
      have e : i = B.m := by omega
      subst e
      rw [hNn, List.take_of_length_le (by have := HLL.o; omega)] at h
      exact h)
     obtain rfl : i = B.m := by omega
     have HZ0 := Lh HZ.o
     replace HZ := Lh (show N2 ≤ wp.heap.size from Nat.le_of_eq hNn.symm)
     have HNN := Lh (show N1 ≤ N2 by have := HZ0.o; omega)
     replace HLN := Lh (show (w.heap.size + 1 + 1 + 1) ≤ N2 by have := HLN.o; have := HZ0.o; omega)
     clear hNn HR1
     go_wp2_with fail
     clear a0 hd hd'
     go_loopw [6] (fun c6 wr => ∃ (i : Nat) (v1 : Value), i ≤ B.k ∧ c6 = .int .i64 i ∧ Hid (Cl wr w.heap.size [.slice B.a B.n B.c, .slice B.b B.m B.d, .slice B.e B.k B.f]) ∧ Hid (Cl wr (w.heap.size + 1) [.slice none 0 0, .slice none 0 0, .slice none 0 0]) ∧ Hid (Cl wr (w.heap.size + 1 + 1) [.slice a1 B.n c1, .slice a2 B.m c2, v1]) ∧ Hid (RbR N2 v1 i (B.rs.take i) wr) ∧ Hid (RdV (w.heap.size + 1 + 1 + 1) N1 (.slice a1 B.n c1) B.n B.l wr) ∧ Hid (RdV N1 N2 (.slice a2 B.m c2) B.m B.l' wr) ∧ Hid (Below w.heap.size w wr) ∧ Hid (N2 ≤ wr.heap.size)) (fun c6 _ => B.k - (intOf c6).toNat)
     case atStart => exact ⟨0, .slice none 0 0, by omega, rfl, F_1.o, F_2.o, F_3.o, by rw [List.take_zero]; exact RbR.start _ _, HF1.o, HF2.o, HBW.o, HZ.o⟩
     case round =>
      clear F_1 F_2 F_3 HBW HZ HF1 HF2
      obtain ⟨i, v1, hi, rfl, F_1, F_2, F_3, HR1, HF1, HF2, HBW, HZ⟩ := hrel
      have hn1 : B.k ≤ 1000 := by have := HS.o.s1; have := HS.o.s2; omega
      have hwi : IntKind.i64.wrap ((i : Int) + 1) = (i : Int) + 1 := IntWalk.i64_in _ (by omega)
      have hi0 : (0 : Int) ≤ (i : Int) := by omega
      by_cases hlt : i < B.k
      case pos =>
       have hi2 : (i : Int) < (B.k : Int) := by omega
       have cR : Tryz.prog.cellsOf 36 = 2 := by kernel_rfl
       obtain ⟨s, o, V, hsa, hVL, hs2, e0, e1, hVin⟩ := (HB.o.keep HBW.o).h3.at i hlt
       have hvc : RCells wr s (o + i * 2) V := ⟨hs2, e0, e1⟩
       clear hs2 e0 e1
       have hVn : V.n ≤ 10000 ∧ V.m ≤ 10000 := by have := HS.o.s3 V (List.mem_of_getElem? hVL); omega
       have HVN := Lh hVn
       have HVL := Lh hVL
       have HV := Lh hVin
       obtain ⟨Us, ho1, hu1, hk1⟩ := HR1.o
       obtain ⟨a8, c8, rfl⟩ := own_slice ho1
       have HO1 := Lh ho1
       have HU1 := Lh hu1
       have HK1 := Lh hk1
       clear hVL hVin hVn ho1 hu1 hk1 HR1
       rw [hsa] at F_1 ⊢
       clear hsa
       have a0 := F_1.o.c 2 _ rfl
       go_wp2_with fail
       clear a0
       have F_x := Lh hvc
       clear hvc
       have HY := Lh (Below.refl wr.heap.size wr)
       have F_1y := F_1
       have F_2y := F_2
       have F_3y := F_3
       have HOy := HO1
       have HUy := HU1
       have HBy := HBW
       have HZy := HZ
       replace F_x := Lh (F_x.o.keep (Below.refl _ _).drew)
       replace F_1y := Lh F_1y.o.drew
       replace F_2y := Lh F_2y.o.drew
       replace F_3y := Lh F_3y.o.drew
       have hS0 := And.intro F_x.o F_1y.o
       refine wp_region_stage 7 (fun w' => RCells w' s (o + i * 2) V ∧ Cl w' w.heap.size [.slice B.a B.n B.c, .slice B.b B.m B.d, .slice (some ⟨s, o, none⟩) B.k B.f]) (by kernel_rfl) ?_
       refine tkP (i := 0) (some 50) (.fieldAddr 55 (.tmp 3) 2) 0 (fun _ => hS0) ?_
       simp only [sY]
       refine tkP (i := 2) (some 52) (.fieldAddr 55 (.tmp 1) 2) 0 (fun _ => hS0) ?_
       simp only [sY]
       refine tkL (i := 3) (some 53) (.load 53 (.tmp 52)) 53 [5, 6, 7] (v := ?_) hS0 (fun w' hSw => ?_) ?_
       rotate_left
       · obtain ⟨t1, t2⟩ := hSw; obtain ⟨-, e0, e1⟩ := t1; have a2 := t2.c 2 _ rfl
         unfold bareOp; go_simp; try with_reducible rfl
       simp only [sY]
       refine tkP (i := 4) (some 54) (.move (.tmp 6)) 3 (fun _ => hS0) ?_
       simp only [sY]
       refine tkP (i := 5) (some 55) (.indexAddr 53 (.tmp 53) (.tmp 54)) 0 (fun _ => hS0) ?_
       simp only [sY]
       refine tkL (i := 6) (some 56) (.load 36 (.tmp 55)) 36 [7] (v := ?_) hS0 (fun w' hSw => ?_) ?_
       rotate_left
       · obtain ⟨t1, t2⟩ := hSw; obtain ⟨-, e0, e1⟩ := t1; have a2 := t2.c 2 _ rfl
         unfold bareOp; go_simp; try with_reducible rfl
       simp only [sY]
       refine wpAnyB_cloud0 (fuel := 3) [(1, 51), (7, 57), (8, 58)] [] (fun y w' => RCells w' s (o + i * 2) V ∧ Cl w' w.heap.size [.slice B.a B.n B.c, .slice B.b B.m B.d, .slice (some ⟨s, o, none⟩) B.k B.f] ∧ Cl w' (w.heap.size + 1) [.slice none 0 0, .slice none 0 0, .slice none 0 0] ∧ Cl w' (w.heap.size + 1 + 1) [.slice a1 B.n c1, .slice a2 B.m c2, .slice a8 i c8] ∧ Below wr.heap.size wr w' ∧ (∀ v, y 1 = some v → v = .slice a8 i c8) ∧ (∀ v, y 7 = some v → ∃ U : Rv, v = U.v ∧ RvIn w' U ∧ SameR U V ∧ highB U.a U.n wr.heap.size ∧ highB U.b U.m wr.heap.size) ∧ (∀ v, y 8 = some v → ∃ (b : Nat) (U : Rv), v = .slice (some ⟨b, 0, none⟩) 1 1 ∧ Cl w' b U.vs ∧ RvIn w' U ∧ SameR U V ∧ highB U.a U.n wr.heap.size ∧ highB U.b U.m wr.heap.size)) rfl (by decide) (by decide) (by kernel_rfl) (by kernel_rfl) (by kernel_rfl) (fun _ _ _ _ _ h => h) (fun y w' hI => ⟨hI.1, hI.2.1⟩) ⟨hS0.1, F_1y.o, F_2y.o, F_3y.o, (Below.refl _ _).drew, fun v h => (by cases h), fun v h => (by cases h), fun v h => (by cases h)⟩ ?_ ?_
       · intro p hp y w8 hyn hy hrd hI
         obtain ⟨hfx, hf1, hf2, hf3, hbl, hq1, hq7, hq8⟩ := hI
         simp only [List.mem_cons, List.not_mem_nil, or_false] at hp
         rcases hp with rfl | rfl | rfl
         · refine takeN (by kernel_rfl) (wpOp_bare (some 51) (Op.load 53 (Operand.tmp 50)) 53 ⟨_, rfl, rfl, rfl, rfl, rfl⟩ (fun K hK => ?_))
           refine wp_of_run (run_ld_revs _ _ _ _ (.tmp 50) ((eval_putC_not _ _ 50 (by decide)).trans rfl) (hf3.c 2 _ rfl)) (hK.o _ _ ⟨_, rfl, ?_⟩)
           refine ⟨hfx, hf1, hf2, hf3, hbl, ?_, ?_, ?_⟩
           · exact fun v hv => (uS hv).symm
           · exact fun v hv => hq7 v (uN hv)
           · exact fun v hv => hq8 v (uN hv)
         · refine takeN (by kernel_rfl) (wpOp_bare (some 57) (Op.call { callee := Callee.value (Operand.func 45), args := #[Operand.tmp 56], argTypes := #[36] }) 36 ⟨_, rfl, rfl, rfl, rfl, rfl⟩ (fun K hK => ?_))
           refine wp_of_enter (run_call _ _ _ _ 45 Tryz.func45 (vs := #[V.v]) ?hv rfl (by kernel_rfl) (by kernel_rfl)) (rTwinReveal_any (R := V) w8 (HV.o.keep hbl) HVN.o.1 HVN.o.2) ?_
           case hv =>
            simp only [List.map_toArray, List.map_cons, List.map_nil]
            rw [eval_putC_not _ _ 56 (by decide)]
            rfl
           rintro e w9 ⟨U, rfl, hU9, hS9, hh1, hh2, hb9⟩
           refine ⟨_, rfl, hK.o _ _ ⟨_, rfl, ?_⟩⟩
           refine ⟨hfx.keep hb9, hf1.keep hb9, hf2.keep hb9, hf3.keep hb9, hbl.trans (hb9.mono hbl.size), ?_, ?_, ?_⟩
           · exact fun v hv => hq1 v (uN hv)
           · intro v hv; rw [updC_same] at hv; cases hv; exact ⟨U, rfl, hU9, hS9, hh1.mono hbl.size, hh2.mono hbl.size⟩
           · intro v hv; have h := hq8 v (uN hv); obtain ⟨b, U, h1, h2, h3, h4⟩ := h; exact ⟨b, U, h1, h2.keep hb9, h3.keep hb9, h4⟩
         · refine takeN (by kernel_rfl) (wpOp_bare (some 58) (Op.buildSlice 53 1 #[(0, Operand.tmp 57)]) 53 ⟨_, rfl, rfl, rfl, rfl, rfl⟩ (fun K hK => ?_))
           obtain ⟨v7, hv7⟩ := depC hy (j := 7) (d := 57) (by simp) hrd rfl (by kernel_rfl)
           obtain ⟨U, rfl, hU9, hS9, hh1, hh2⟩ := hq7 v7 hv7
           refine wp_of_run (run_lit_rev _ _ _ _ (.tmp 57) U (eval_putC _ _ (j := 7) (d := 57) (by simp) (by decide) hv7 (of_decide_eq_true (by kernel_rfl)))) (hK.o _ _ ⟨_, rfl, ?_⟩)
           refine ⟨hfx.keep ((Below.refl _ _).alloc (Nat.le_refl _) _), hf1.alloc _, hf2.alloc _, hf3.alloc _, hbl.alloc hbl.size _, ?_, ?_, ?_⟩
           · exact fun v hv => hq1 v (uN hv)
           · intro v hv; have h := hq7 v (uN hv); obtain ⟨U, h1, h2, h3⟩ := h; exact ⟨U, h1, h2.keep ((Below.refl _ _).alloc (Nat.le_refl _) _), h3⟩
           · intro v hv; rw [updC_same] at hv; cases hv; exact ⟨w8.heap.size, U, rfl, Cl.at w8 U.vs _ _ rfl, hU9.keep ((Below.refl _ _).alloc (Nat.le_refl _) _), hS9, hh1, hh2⟩
       intro y w9 hall hI
       obtain ⟨hfx, hf1, hf2, hf3, hbl, hq1, hq7, hq8⟩ := hI
       obtain ⟨v1, hv1⟩ := Option.isSome_iff_exists.1 (hall (1, 51) (by simp))
       obtain ⟨v7, hv7⟩ := Option.isSome_iff_exists.1 (hall (7, 57) (by simp))
       obtain ⟨v8, hv8⟩ := Option.isSome_iff_exists.1 (hall (8, 58) (by simp))
       clear hall
       obtain rfl := hq1 v1 hv1
       obtain ⟨U0, rfl, -⟩ := hq7 v7 hv7
       obtain ⟨b9, U, rfl, hL9, hU9, hS9, hh1, hh2⟩ := hq8 v8 hv8
       have HL9 := Lh hL9
       have HU9 := Lh hU9
       have HS9 := Lh hS9
       have HH9 := Lh (And.intro hh1 hh2)
       have F_19 := Lh hf1
       have F_29 := Lh hf2
       have F_39 := Lh hf3
       have HB9 := Lh hbl
       have hS0 := And.intro hfx hf1
       clear hL9 hU9 hS9 hh1 hh2 hfx hf1 hf2 hf3 hbl hq1 hq7 hq8
       simp only [putC, setAll, Act.put, sZ, Option.getD_some, hv1, hv7, hv8]
       clear hv1 hv7 hv8
       refine onl (i := 9) (some 59) (.call { callee := .builtin .append, args := #[.tmp 51, .tmp 58], argTypes := #[53, 53] }) 53 (fun K hK => ?_)
       unfold bareOp
       have HOa := Lh (owns_below2 HOy.o HB9.o)
       have HZa := Lh (show N2 ≤ w9.heap.size from Nat.le_trans HZy.o HB9.o.size)
       have HUa := Lh (show ∀ U, U ∈ Us → RvOff w9 U (Value.slice a8 i c8).ownBlock ∧ highB U.a U.n N2 ∧ highB U.b U.m N2 from fun U hU => ⟨(HUy.o U hU).1.keep HB9.o, (HUy.o U hU).2⟩)
       refine wp_push_r2 (.tmp 51) (.tmp 58) rfl N2 i b9 (.slice a8 i c8) (Us.flatMap Rv.vs) U rfl rfl HOa.o (fun q u hq => by rw [add_pl, Nat.zero_add]; exact HL9.o.c q u hq) (by omega) HZa.o ?_
       intro v10 w10 hown hgr hwh
       obtain ⟨a10, c10, rfl⟩ := own_slice hown
       have HBa := Lh (Below.rowT (n := (w.heap.size + 1 + 1 + 1)) hgr (fun k hk => Nat.le_trans HLN.o (HOa.o.lt k hk).1) (Nat.le_trans HLN.o HZa.o))
       have HO10 := Lh hown
       have HG10 := Lh hgr
       have HW10 := Lh hwh
       have F_1z := Lh (F_19.o.keepN HBa.o (by omega))
       have F_2z := Lh (F_29.o.keepN HBa.o (by omega))
       have F_3z := Lh (F_39.o.keepN HBa.o (by omega))
       have HF1z := Lh (show RdV (w.heap.size + 1 + 1 + 1) N1 (.slice a1 B.n c1) B.n B.l w10 from (HF1.o.keep (HY.o.trans (HB9.o.mono HY.o.size))).grown HG10.o (fun g hg => .inr (Nat.le_trans HNN.o (HOa.o.lt g hg).1)))
       have HF2z := Lh (show RdV N1 N2 (.slice a2 B.m c2) B.m B.l' w10 from (HF2.o.keep (HY.o.trans (HB9.o.mono HY.o.size))).grown HG10.o (fun g hg => .inr (Nat.le_trans (Nat.le_refl _) (HOa.o.lt g hg).1)))
       clear hown hgr hwh hS0
       refine hK.o _ _ lt8 ?_
       clear hK K
       try simp only [sY]
       refine tkP (i := 10) (some 60) (.fieldAddr 55 (.tmp 3) 2) 0 lt8 ?_
       simp only [sY]
       refine onl (i := 11) none (.store 53 (.tmp 60) (.tmp 59)) 0 (fun K hK => ?_)
       unfold bareOp
       have q0 := F_3z.o.c 2 _ rfl
       have f0 := F_3z.o.f 2
       go_wp2_with fail
       refine hK.o _ _ lt8 ?_
       clear hK K
       try simp only [sY]
       refine wpAnyB_done (by kernel_rfl) ?_ _
       go_wp2_with fail
       go_roundw
       case rel =>
        have hlow : ∀ g, (Value.slice a8 i c8).ownBlock = some g → g < wr.heap.size := fun g hg => (HOy.o.lt g hg).2
        refine ⟨i + 1, .slice a10 (i + 1) c10, by omega, by go_num, F_1z.o.far ⟨(w.heap.size + 1 + 1), 2, none⟩ _ (by simp <;> omega), F_2z.o.far ⟨(w.heap.size + 1 + 1), 2, none⟩ _ (by simp <;> omega), F_3z.o.set (m := [.slice a1 B.n c1, .slice a2 B.m c2, .slice a10 (i + 1) c10]) 2 (.slice a10 (i + 1) c10) (by simp) rfl, (RbR.push HO10.o HG10.o HW10.o HUa.o ⟨HU9.o, HH9.o.1.off hlow, HH9.o.2.off hlow⟩ (HH9.o.1.mono HZy.o) (HH9.o.2.mono HZy.o) HK1.o HVL.o HS9.o.key).box (by have := HLN.o; simp <;> omega) (F_3z.o.c 2 _ rfl), HF1z.o.box (by have := HLN.o; have := HNB.o; simp <;> omega) (F_3z.o.c 2 _ rfl), HF2z.o.box (by have := HLN.o; have := HNB.o; simp <;> omega) (F_3z.o.c 2 _ rfl), ?_, ?_⟩
        · exact ((HBy.o.trans (HB9.o.mono HBy.o.size)).trans (HBa.o.mono (by omega) : Below (w.heap.size) w9 w10)).setCell (by simp <;> omega) _
        · exact (show N2 ≤ _ by rw [World.size_setCell]; exact Nat.le_trans HZa.o HG10.o.size)
       case measure => simp [intOf] <;> omega
      case neg =>
       have hd : decide ((i : Int) < (B.k : Int)) = false := decide_eq_false (by omega)
       have hd' : ¬ ((i : Int) < (B.k : Int)) := by omega
       obtain ⟨a3, c3, rfl⟩ := own_slice HR1.o.choose_spec.1
       have a0 := F_1.o.c 2 _ rfl
       have HF3 := Lh (show RdR N2 wr.heap.size (.slice a3 B.k c3) B.k B.rs wr from by
        have h := HR1.o.full
        have e : i = B.k := by omega
        subst e
        rw [List.take_of_length_le (by have := HLL.o; omega)] at h
        exact h)
       obtain rfl : i = B.k := by omega
       clear HR1
       go_wp2_with (first
        | (refine wpL_loadCl rfl 55 (.tmp 3) (w.heap.size + 1 + 1) _ rfl rfl _ Tryz.underlying55 rfl (by kernel_rfl) F_3.o ?_)
        | (refine wpL_storeCl rfl 55 (.tmp 2) (.tmp 61) (w.heap.size + 1) 0 _ [.slice a1 B.n c1, .slice a2 B.m c2, .slice a3 B.k c3] [.slice a1 B.n c1, .slice a2 B.m c2, .slice a3 B.k c3] rfl rfl rfl rfl (by kernel_rfl) (by intro u hu; simp at hu; rcases hu with rfl | rfl | rfl <;> rfl) F_2.o (by simp) rfl ?_
           intro w8 hc8 hg8 hz8
           have F_q := Lh hc8
           have HG8 := Lh hg8
           have HZ8 := Lh hz8
           clear hc8 hg8 hz8))
       refine bodyPost_ret (res_booth1 rfl F_q.o _ rfl) rfl ?_
       have hLN := HLN.o
       have hNB := HNB.o
       have hNN := HNN.o
       refine ⟨⟨_, _, _, N1, N2, wr.heap.size, rfl, by omega, hNN, HZ.o, Nat.le_of_eq HZ8.o.symm, ?_, ?_, ?_⟩, HBW.o.trans (HG8.o.blw (n := w.heap.size) (by omega) HBW.o.size)⟩
       · exact (HF1.o.grown HG8.o.grown (fun g hg => by cases hg; exact .inl (by omega))).lo (by omega)
       · exact HF2.o.grown HG8.o.grown (fun g hg => by cases hg; exact .inl (by omega))
       · exact HF3.o.grown HG8.o.grown (fun g hg => by cases hg; exact .inl (by omega))
open Go Go.RowKit Num Sha
theorem cd_few {V : Vt} (h : V.n ≤ 10 ∧ V.m ≤ 10) : V.cd = shaS V.bytes := by
 unfold Vt.cd codeF
 rw [if_neg (by omega)]
set_option maxHeartbeats 16000000 in
theorem rSeen_any {a : Option Addr} {n c : Nat} {L : List Vt} {V : Vt} {v : Bool} (w : World) (hL : ShV w a n L) (hn : n ≤ 2097152) (hs : ∀ U, U ∈ L → U.n ≤ 10 ∧ U.m ≤ 10) (hV : VtIn w V) (hv1 : V.n ≤ 10 ∧ V.m ≤ 10) (hv : v = true ↔ V.cd ∈ cds L) :
 Calls Tryz.prog 90 #[.slice a n c, V.v] w fun e w' => e = .returned (.bool v) ∧ Below w.heap.size w w' := by
 have HL := Lh hL
 have HLN := Lh hL.len
 have HS := Lh hs
 have HV := Lh hV
 have HVN := Lh hv1
 have HR := Lh hv
 clear hL hs hV hv hv1
 unfold Vt.v
 obtain ⟨F_v, HBW⟩ := bx1 w V.cl 33
 go_enter Tryz.func90, Tryz.ntmps90
 go_wp2_with fail
 go_loopw [5] (fun c5 wr => ∃ i : Nat, i ≤ n ∧ c5 = .int .i64 i ∧ Hid (V.cd ∉ cds (L.take i)) ∧ Hid (Cl wr w.heap.size V.cl) ∧ Hid (Below w.heap.size w wr)) (fun c5 _ => n - (intOf c5).toNat)
 case atStart => exact ⟨0, by omega, rfl, by rw [List.take_zero]; exact List.not_mem_nil, F_v.o, HBW.o⟩
 case round =>
  clear F_v HBW
  obtain ⟨i, hi, rfl, HE, F_v, HBW⟩ := hrel
  by_cases hlt : i < n
  case neg =>
   obtain rfl : i = n := by omega
   have hd : decide ((i : Int) < (i : Int)) = false := decide_eq_false (by omega)
   have HZ := Lh (show v = false from boolP HR.o (fun h => HE.o (by rw [List.take_of_length_le (by rw [← HLN.o]; exact Nat.le_refl _)]; exact h)))
   go_wp2_with fail
   go_ret
   exact ⟨by rw [HZ.o]; rfl, HBW.o⟩
  case pos =>
   have hd : decide ((i : Int) < (n : Int)) = true := decide_eq_true (by omega)
   have hi0 : (0 : Int) ≤ (i : Int) := by omega
   have hi2 : (i : Int) < (n : Int) := by omega
   have hwi : IntKind.i64.wrap ((i : Int) + 1) = (i : Int) + 1 := IntWalk.i64_in _ (by omega)
   have cV : Tryz.prog.cellsOf 33 = 11 := by kernel_rfl
   obtain ⟨s1, o1, U, hsa, hUL, huc, hUin⟩ := (HL.o.keep HBW.o).at i hlt
   have HUC := Lh huc
   have HU := Lh hUin
   have HUL := Lh hUL
   have HUN := Lh (HS.o U (List.mem_of_getElem? hUL))
   subst hsa
   clear huc hUin hUL
   go_wp2_with fail
   replace F_v := Lh F_v.o.drew
   replace HUC := Lh (HUC.o.keep (Below.refl _ _).drew)
   replace HU := Lh (HU.o.keep (Below.refl _ _).drew)
   replace HBW := Lh HBW.o.drew
   have hS0 := And.intro HUC.o F_v.o
   refine wp_region_stage 9 (fun w' => VCells w' s1 (o1 + i * 11) U ∧ Cl w' w.heap.size V.cl) (by kernel_rfl) ?_
   refine tkP (i := 0) (some 12) (.move (.tmp 0)) 52 (fun _ => hS0) ?_
   simp only [sY]
   refine tkP (i := 1) (some 13) (.move (.tmp 5)) 3 (fun _ => hS0) ?_
   simp only [sY]
   refine tkP (i := 2) (some 14) (.indexAddr 52 (.tmp 12) (.tmp 13)) 0 (fun _ => hS0) ?_
   simp only [sY]
   refine tkL (i := 3) (some 15) (.load 33 (.tmp 14)) 33 [4, 5, 7, 8, 9] (v := ?_) hS0 (fun w' hSw => ?_) ?_
   rotate_left
   · obtain ⟨t1, t2⟩ := hSw; obtain ⟨-, e0, e1, e2, e3, e4, e5, e6, e7, e8, e9, e10⟩ := t1; obtain ⟨⟨q0, q1, q2, q3, q4, q5, q6, q7, q8, q9, q10⟩, -⟩ := t2.k11
     unfold bareOp; go_simp; try with_reducible rfl
   simp only [sY]
   refine tkL (i := 6) (some 18) (.load 33 (.tmp 3)) 33 [7, 8, 9] (v := ?_) hS0 (fun w' hSw => ?_) ?_
   rotate_left
   · obtain ⟨t1, t2⟩ := hSw; obtain ⟨-, e0, e1, e2, e3, e4, e5, e6, e7, e8, e9, e10⟩ := t1; obtain ⟨⟨q0, q1, q2, q3, q4, q5, q6, q7, q8, q9, q10⟩, -⟩ := t2.k11
     unfold bareOp; go_simp; try with_reducible rfl
   simp only [sY]
   refine onl (i := 4) (some 16) (.call { callee := .value (.func 122), args := #[.tmp 15], argTypes := #[33] }) 80 (fun K hK => ?_)
   unfold bareOp
   refine OpW.out (wp_of_enter (run_call _ _ _ _ 122 Tryz.func122 (vs := #[U.v]) (by simp only [List.map_toArray, List.map_cons, List.map_nil]; rfl) rfl (by kernel_rfl) (by kernel_rfl)) (r36Of_any (V := U) _ HU.o HUN.o.1 HUN.o.2) ?_)
   rintro e w4 ⟨v4, rfl, ho4, hb⟩
   refine ⟨_, rfl, ?_⟩
   obtain ⟨hbl, hb3⟩ := bytes_len HU.o HUN.o.1 HUN.o.2
   have HBY4 := Lh (bytes_ok HU.o HUN.o.1 HUN.o.2)
   obtain ⟨g4, c4, rfl, hsh⟩ := ho4.shs (by omega)
   obtain ⟨nl4, hnl⟩ : ∃ nl, U.bytes.length = nl := ⟨_, rfl⟩
   rw [hnl] at hsh hbl ⊢
   have HSH4 := Lh hsh
   have HBL4 := Lh hbl
   clear ho4 hsh hbl hb3 hnl
   replace F_v := Lh (F_v.o.keep hb)
   replace HUC := Lh (HUC.o.keep hb)
   replace HU := Lh (HU.o.keep hb)
   replace HBW := Kt HBW hb
   clear hS0
   have hS0 := And.intro HUC.o F_v.o
   refine hK.o _ _ (fun _ => hS0) ?_
   clear hK K
   try simp only [sY]
   refine onl (i := 5) (some 17) (.call { callee := .value (.func 121), args := #[.tmp 16], argTypes := #[80] }) 26 (fun K hK => ?_)
   unfold bareOp
   refine OpW.out (wp_of_enter (run_call _ _ _ _ 121 Tryz.func121 (vs := #[.slice (some ⟨g4, 0, none⟩) nl4 c4]) (by simp only [List.map_toArray, List.map_cons, List.map_nil]; rfl) rfl (by kernel_rfl) (by kernel_rfl)) (rOf5_any _ HSH4.o (by have := HBL4.o; omega) HBY4.o) ?_)
   rintro e w5 ⟨rfl, hb⟩
   refine ⟨_, rfl, ?_⟩
   replace F_v := Lh (F_v.o.keep hb)
   replace HUC := Lh (HUC.o.keep hb)
   replace HU := Lh (HU.o.keep hb)
   replace HBW := Kt HBW hb
   clear hS0
   have hS0 := And.intro HUC.o F_v.o
   clear hb
   refine hK.o _ _ (fun _ => hS0) ?_
   clear hK K
   try simp only [sY]
   refine onl (i := 7) (some 19) (.call { callee := .value (.func 122), args := #[.tmp 18], argTypes := #[33] }) 80 (fun K hK => ?_)
   unfold bareOp
   refine OpW.out (wp_of_enter (run_call _ _ _ _ 122 Tryz.func122 (vs := #[V.v]) (by simp only [List.map_toArray, List.map_cons, List.map_nil]; rfl) rfl (by kernel_rfl) (by kernel_rfl)) (r36Of_any (V := V) _ (HV.o.keep HBW.o) HVN.o.1 HVN.o.2) ?_)
   rintro e w7 ⟨v7, rfl, ho7, hb⟩
   refine ⟨_, rfl, ?_⟩
   obtain ⟨hbl, hb3⟩ := bytes_len (HV.o.keep HBW.o) HVN.o.1 HVN.o.2
   have HBY7 := Lh (bytes_ok (HV.o.keep HBW.o) HVN.o.1 HVN.o.2)
   obtain ⟨g7, c7, rfl, hsh⟩ := ho7.shs (by omega)
   obtain ⟨nl7, hnl⟩ : ∃ nl, V.bytes.length = nl := ⟨_, rfl⟩
   rw [hnl] at hsh hbl ⊢
   have HSH7 := Lh hsh
   have HBL7 := Lh hbl
   clear ho7 hsh hbl hb3 hnl
   replace F_v := Lh (F_v.o.keep hb)
   replace HUC := Lh (HUC.o.keep hb)
   replace HU := Lh (HU.o.keep hb)
   replace HBW := Kt HBW hb
   clear hS0
   have hS0 := And.intro HUC.o F_v.o
   refine hK.o _ _ (fun _ => hS0) ?_
   clear hK K
   try simp only [sY]
   refine onl (i := 8) (some 20) (.call { callee := .value (.func 121), args := #[.tmp 19], argTypes := #[80] }) 26 (fun K hK => ?_)
   unfold bareOp
   refine OpW.out (wp_of_enter (run_call _ _ _ _ 121 Tryz.func121 (vs := #[.slice (some ⟨g7, 0, none⟩) nl7 c7]) (by simp only [List.map_toArray, List.map_cons, List.map_nil]; rfl) rfl (by kernel_rfl) (by kernel_rfl)) (rOf5_any _ HSH7.o (by have := HBL7.o; omega) HBY7.o) ?_)
   rintro e w8 ⟨rfl, hb⟩
   refine ⟨_, rfl, ?_⟩
   replace F_v := Lh (F_v.o.keep hb)
   replace HUC := Lh (HUC.o.keep hb)
   replace HU := Lh (HU.o.keep hb)
   replace HBW := Kt HBW hb
   clear hS0
   have hS0 := And.intro HUC.o F_v.o
   clear hb
   refine hK.o _ _ (fun _ => hS0) ?_
   clear hK K
   try simp only [sY]
   obtain ⟨X, hX⟩ : ∃ X, shaS U.bytes = X := ⟨_, rfl⟩
   obtain ⟨Y, hY⟩ : ∃ Y, shaS V.bytes = Y := ⟨_, rfl⟩
   rw [hX, hY]
   have hlx : X.length = 32 := by rw [← hX]; exact shaS_len _
   have hly : Y.length = 32 := by rw [← hY]; exact shaS_len _
   obtain ⟨q, hq⟩ : ∃ q, (X == Y) = q := ⟨_, rfl⟩
   have heq : ∀ w : World, (Op.equalIn 10000 26 (.agg (valV .u8 X)) (.agg (valV .u8 Y))).run Tryz.prog w = .ok q w := fun w => by rw [← hq]; exact eq_arr32 9998 X Y hlx hly w
   have HQ := Lh (show q = true ↔ U.cd = V.cd by rw [← hq, cd_few HUN.o, cd_few HVN.o, hX, hY]; simp)
   clear hX hY hq hlx hly
   refine onl (i := 9) (some 21) (.binOp .eql 26 (.tmp 17) (.tmp 20) 26) 4 (fun K hK => ?_)
   unfold bareOp
   go_wp2_with fail
   refine hK.o _ _ lt8 ?_
   clear hK K
   try simp only [sY]
   refine wpAnyB_done (by kernel_rfl) ?_ _
   clear heq
   cases q with
   | true =>
    have HZ := Lh (show v = true from HR.o.2 (by rw [← HQ.o.1 rfl]; exact List.mem_map.2 ⟨U, List.mem_of_getElem? HUL.o, rfl⟩))
    go_wp2_with fail
    go_ret
    exact ⟨by rw [HZ.o]; rfl, HBW.o⟩
   | false =>
    have HN := Lh (show V.cd ∉ cds (L.take (i + 1)) by
     have h := HE.o
     unfold cds at h ⊢
     rw [take_snoc HUL.o, List.map_append, List.mem_append]
     rintro (h' | h')
     · exact h h'
     · rw [List.map_singleton, List.mem_singleton] at h'
       have := HQ.o.2 h'.symm
       cases this)
    go_wp2_with fail
    go_roundw
    case rel => exact ⟨i + 1, by omega, by go_num, HN.o, F_v.o, HBW.o⟩
    case measure => simp [intOf] <;> omega
end Go.Proofs.YtlbldpkgnonbpaaGreatDoor
