/- booth.twin of any booth. -/
import Derived.Test.YtlbldpkgnonbpaaGreatDoorQsX
set_option linter.unusedSimpArgs false
set_option linter.unusedVariables false
set_option maxRecDepth 100000
namespace Go.Proofs.YtlbldpkgnonbpaaGreatDoor
open Go Go.RowKit Num Sha
theorem highB.mono {a : Option Addr} {n N N' : Nat} (h : highB a n N') (hN : N ≤ N') : highB a n N := fun hn s o ha => Nat.le_trans hN (h hn s o ha)
theorem Gro.grown {r : Nat} {a b : World} (h : Gro r a b) : a.grownBy b (some r) := ⟨h.os, h.tape, h.output, h.size, fun k hk hne => h.block k hk (fun e => hne (by rw [e]))⟩
theorem RdV.length {lo N : Nat} {v : Value} {k : Nat} {L : List Vt} {wr : World} (h : RdV lo N v k L wr) : L.length = k := by
 obtain ⟨Us, h1, -, h3, h4⟩ := h
 obtain ⟨a, c, -, hs, -, -⟩ := ShV.of_owned h1 (fun U hU => (h3 U hU).1.1)
 have := congrArg List.length h4
 simp only [List.length_map] at this
 rw [← this, hs.len]
theorem RdR.length {lo N : Nat} {v : Value} {k : Nat} {L : List Rv} {wr : World} (h : RdR lo N v k L wr) : L.length = k := by
 obtain ⟨Us, h1, -, h3, h4⟩ := h
 obtain ⟨a, c, -, hs, -, -⟩ := ShR.of_owned h1 (fun U hU => (h3 U hU).1.1)
 have := congrArg List.length h4
 simp only [List.length_map] at this
 rw [← this, hs.len]
def TwR (B : Bo) (n0 : Nat) (e : Ending) (w' : World) : Prop := ∃ v1 v2 v3 N1 N2 N3, e = .returned (.agg #[v1, v2, v3]) ∧ n0 ≤ N1 ∧ N1 ≤ N2 ∧ N2 ≤ N3 ∧ N3 ≤ w'.heap.size ∧ RdV n0 N1 v1 B.n B.l w' ∧ RdV N1 N2 v2 B.m B.l' w' ∧ RdR N2 N3 v3 B.k B.rs w'
theorem RdV.lo {lo lo' N : Nat} {v : Value} {k : Nat} {L : List Vt} {w : World} (h : RdV lo N v k L w) (hl : lo' ≤ lo) : RdV lo' N v k L w := by
 obtain ⟨Us, h1, h2, h3, h4⟩ := h
 exact ⟨Us, owns_mono h1 hl, h2, fun U hU => ⟨(h3 U hU).1, ⟨(h3 U hU).2.1.1.mono hl, (h3 U hU).2.1.2.mono hl⟩, (h3 U hU).2.2⟩, h4⟩
set_option maxHeartbeats 32000000 in
theorem twin_any {B : Bo} (w : World) (hB : BoIn w B) (hs : BoSm B) :
 Calls Tryz.prog 47 #[B.v] w fun e w' => TwR B w.heap.size e w' ∧ Below w.heap.size w w' := by
 have HB := Lh hB
 have HS := Lh hs
 have HLL := Lh (show B.l.length = B.n ∧ B.l'.length = B.m ∧ B.rs.length = B.k from ⟨hB.h1.len.symm, hB.h2.len.symm, hB.h3.len.symm⟩)
 obtain ⟨F_1, F_2, F_3, HBW⟩ := bx3 w [.slice B.a B.n B.c, .slice B.b B.m B.d, .slice B.e B.k B.f] 55 [.slice none 0 0, .slice none 0 0, .slice none 0 0] 55 [.slice none 0 0, .slice none 0 0, .slice none 0 0] 55
 have HZ := Lh (show (w.heap.size + 1 + 1 + 1) ≤ ((((w.alloc (.cells #[.slice B.a B.n B.c, .slice B.b B.m B.d, .slice B.e B.k B.f] 55)).alloc (.cells #[.slice none 0 0, .slice none 0 0, .slice none 0 0] 55)).alloc (.cells #[.slice none 0 0, .slice none 0 0, .slice none 0 0] 55))).heap.size by simp)
 have HLN := Lh (Nat.le_refl (w.heap.size + 1 + 1 + 1))
 clear hB hs
 unfold Bo.v
 have a0 := F_1.o.c 0 _ rfl
 go_enter Tryz.func47, Tryz.ntmps47
 go_wp2_with fail
 clear a0
 go_loopw [13] (fun c13 wr => ∃ (i : Nat) (v1 : Value), i ≤ B.n ∧ c13 = .int .i64 i ∧ Hid (Cl wr w.heap.size [.slice B.a B.n B.c, .slice B.b B.m B.d, .slice B.e B.k B.f]) ∧ Hid (Cl wr (w.heap.size + 1) [.slice none 0 0, .slice none 0 0, .slice none 0 0]) ∧ Hid (Cl wr (w.heap.size + 1 + 1) [v1, .slice none 0 0, .slice none 0 0]) ∧ Hid (RbV (w.heap.size + 1 + 1 + 1) v1 i (B.l.take i) wr) ∧ Hid (Below w.heap.size w wr) ∧ Hid ((w.heap.size + 1 + 1 + 1) ≤ wr.heap.size)) (fun c13 _ => B.n - (intOf c13).toNat)
 case atStart => exact ⟨0, .slice none 0 0, by omega, rfl, F_1.o, F_2.o, F_3.o, by rw [List.take_zero]; exact RbV.start _ _, HBW.o, HZ.o⟩
 case round =>
  clear F_1 F_2 F_3 HBW HZ 
  obtain ⟨i, v1, hi, rfl, F_1, F_2, F_3, HR1, HBW, HZ⟩ := hrel
  have hn1 : B.n ≤ 1000 := by have := HS.o.s1; have := HS.o.s2; omega
  have hwi : IntKind.i64.wrap ((i : Int) + 1) = (i : Int) + 1 := IntWalk.i64_in _ (by omega)
  have hi0 : (0 : Int) ≤ (i : Int) := by omega
  by_cases hlt : i < B.n
  case pos =>
   have hi2 : (i : Int) < (B.n : Int) := by omega
   have cV : Tryz.prog.cellsOf 33 = 11 := by kernel_rfl
   obtain ⟨s, o, V, hsa, hVL, hvc, hVin⟩ := (HB.o.keep HBW.o).h1.at i hlt
   have hVn : V.n ≤ 10000 ∧ V.m ≤ 10000 := by have := HS.o.s4 V (List.mem_append.2 (.inl (List.mem_of_getElem? hVL))); omega
   obtain ⟨-, e0, e1, e2, e3, e4, e5, e6, e7, e8, e9, e10⟩ := hvc
   have HVN := Lh hVn
   have HVL := Lh hVL
   have HV := Lh hVin
   obtain ⟨Us, ho1, hu1, hk1⟩ := HR1.o
   obtain ⟨a8, c8, rfl⟩ := own_slice ho1
   have HO1 := Lh ho1
   have HU1 := Lh hu1
   have HK1 := Lh hk1
   clear hVL hVin hVn ho1 hu1 hk1 HR1
   rw [hsa] at F_1 ⊢
   clear hsa
   go_wp2_with fail
   clear e0 e1 e2 e3 e4 e5 e6 e7 e8 e9 e10
   have F_x := Lh (Cl.at wr V.cl 33 wr.heap.size rfl)
   have HY := Lh (show Below wr.heap.size wr (wr.alloc (.cells V.ca 33)) from (Below.refl _ _).alloc (Nat.le_refl _) _)
   have F_1y := Lh (F_1.o.keep HY.o)
   have F_2y := Lh (F_2.o.keep HY.o)
   have F_3y := Lh (F_3.o.keep HY.o)
   have HOy := Lh (owns_below2 HO1.o HY.o)
   have HUy := Lh (show ∀ U, U ∈ Us → VtOff (wr.alloc (.cells V.ca 33)) U (Value.slice a8 i c8).ownBlock ∧ highB U.a U.n (w.heap.size + 1 + 1 + 1) ∧ highB U.b U.m (w.heap.size + 1 + 1 + 1) from fun U hU => ⟨(HU1.o U hU).1.keep HY.o, (HU1.o U hU).2⟩)
   replace HV := Lh (HV.o.keep HY.o)
   have HBy := Lh (HBW.o.trans (HY.o.mono HBW.o.size))
   have HZy := Lh (show (w.heap.size + 1 + 1 + 1) ≤ (wr.alloc (.cells V.ca 33)).heap.size from Nat.le_trans HZ.o HY.o.size)
   generalize (wr.alloc (.cells V.ca 33)) = wy at F_x HY F_1y F_2y F_3y HOy HUy HV HBy HZy ⊢
   replace F_x := Lh F_x.o.drew
   replace F_1y := Lh F_1y.o.drew
   replace F_2y := Lh F_2y.o.drew
   replace F_3y := Lh F_3y.o.drew
   have hS0 := F_x.o
   refine wp_region_stage 3 (fun w' => Cl w' wr.heap.size V.cl) (by kernel_rfl) ?_
   refine tkP (i := 0) (some 17) (.fieldAddr 55 (.tmp 3) 0) 0 (fun _ => hS0) ?_
   simp only [sY]
   refine tkL (i := 2) (some 19) (.load 33 (.tmp 5)) 33 [3] (v := ?_) hS0 (fun w' hSw => ?_) ?_
   rotate_left
   · obtain ⟨⟨q0, q1, q2, q3, q4, q5, q6, q7, q8, q9, q10⟩, -⟩ := hSw.k11
     unfold bareOp; go_simp; try with_reducible rfl
   simp only [sY]
   refine wpAnyB_cloud0 (fuel := 3) [(1, 18), (3, 20), (4, 21)] [] (fun y w' => Cl w' wr.heap.size V.cl ∧ Cl w' w.heap.size [.slice (some ⟨s, o, none⟩) B.n B.c, .slice B.b B.m B.d, .slice B.e B.k B.f] ∧ Cl w' (w.heap.size + 1) [.slice none 0 0, .slice none 0 0, .slice none 0 0] ∧ Cl w' (w.heap.size + 1 + 1) [.slice a8 i c8, .slice none 0 0, .slice none 0 0] ∧ Below wy.heap.size wy w' ∧ (∀ v, y 1 = some v → v = .slice a8 i c8) ∧ (∀ v, y 3 = some v → ∃ U : Vt, v = U.v ∧ VtIn w' U ∧ SameV U V ∧ highB U.a U.n wy.heap.size ∧ highB U.b U.m wy.heap.size) ∧ (∀ v, y 4 = some v → ∃ (b : Nat) (U : Vt), v = .slice (some ⟨b, 0, none⟩) 1 1 ∧ Cl w' b U.vs ∧ VtIn w' U ∧ SameV U V ∧ highB U.a U.n wy.heap.size ∧ highB U.b U.m wy.heap.size)) rfl (by decide) (by decide) (by kernel_rfl) (by kernel_rfl) (by kernel_rfl) (fun _ _ _ _ _ h => h) (fun y w' hI => hI.1) ⟨hS0, F_1y.o, F_2y.o, F_3y.o, (Below.refl _ _).drew, fun v h => (by cases h), fun v h => (by cases h), fun v h => (by cases h)⟩ ?_ ?_
   · intro p hp y w8 hyn hy hrd hI
     obtain ⟨hfx, hf1, hf2, hf3, hbl, hq1, hq3, hq4⟩ := hI
     simp only [List.mem_cons, List.not_mem_nil, or_false] at hp
     rcases hp with rfl | rfl | rfl
     · refine takeN (by kernel_rfl) (wpOp_bare (some 18) (Op.load 52 (Operand.tmp 17)) 52 ⟨_, rfl, rfl, rfl, rfl, rfl⟩ (fun K hK => ?_))
       refine wp_of_run (run_ld_votes _ _ _ _ (.tmp 17) ((eval_putC_not _ _ 17 (by decide)).trans rfl) (hf3.c 0 _ rfl)) (hK.o _ _ ⟨_, rfl, ?_⟩)
       refine ⟨hfx, hf1, hf2, hf3, hbl, ?_, ?_, ?_⟩
       · exact fun v hv => (uS hv).symm
       · exact fun v hv => hq3 v (uN hv)
       · exact fun v hv => hq4 v (uN hv)
     · refine takeN (by kernel_rfl) (wpOp_bare (some 20) (Op.call { callee := Callee.value (Operand.func 48), args := #[Operand.tmp 19], argTypes := #[33] }) 33 ⟨_, rfl, rfl, rfl, rfl, rfl⟩ (fun K hK => ?_))
       refine wp_of_enter (run_call _ _ _ _ 48 Tryz.func48 (vs := #[V.v]) ?hv rfl (by kernel_rfl) (by kernel_rfl)) (twinVote_new (V := V) w8 (HV.o.keep hbl) HVN.o.1 HVN.o.2) ?_
       case hv =>
        simp only [List.map_toArray, List.map_cons, List.map_nil]
        rw [eval_putC_not _ _ 19 (by decide)]
        rfl
       rintro e w9 ⟨U, rfl, hU9, hS9, hh1, hh2, hb9⟩
       refine ⟨_, rfl, hK.o _ _ ⟨_, rfl, ?_⟩⟩
       refine ⟨hfx.keep hb9, hf1.keep hb9, hf2.keep hb9, hf3.keep hb9, hbl.trans (hb9.mono hbl.size), ?_, ?_, ?_⟩
       · exact fun v hv => hq1 v (uN hv)
       · intro v hv; rw [updC_same] at hv; cases hv; exact ⟨U, rfl, hU9, hS9, hh1.mono hbl.size, hh2.mono hbl.size⟩
       · intro v hv; have h := hq4 v (uN hv); obtain ⟨b, U, h1, h2, h3, h4⟩ := h; exact ⟨b, U, h1, h2.keep hb9, h3.keep hb9, h4⟩
     · refine takeN (by kernel_rfl) (wpOp_bare (some 21) (Op.buildSlice 52 1 #[(0, Operand.tmp 20)]) 52 ⟨_, rfl, rfl, rfl, rfl, rfl⟩ (fun K hK => ?_))
       obtain ⟨v3, hv3⟩ := depC hy (j := 3) (d := 20) (by simp) hrd rfl (by kernel_rfl)
       obtain ⟨U, rfl, hU9, hS9, hh1, hh2⟩ := hq3 v3 hv3
       refine wp_of_run (run_lit_vote _ _ _ _ (.tmp 20) U (eval_putC _ _ (j := 3) (d := 20) (by simp) (by decide) hv3 (of_decide_eq_true (by kernel_rfl)))) (hK.o _ _ ⟨_, rfl, ?_⟩)
       refine ⟨hfx.alloc _, hf1.alloc _, hf2.alloc _, hf3.alloc _, hbl.alloc hbl.size _, ?_, ?_, ?_⟩
       · exact fun v hv => hq1 v (uN hv)
       · intro v hv; have h := hq3 v (uN hv); obtain ⟨U, h1, h2, h3⟩ := h; exact ⟨U, h1, h2.keep ((Below.refl _ _).alloc (Nat.le_refl _) _), h3⟩
       · intro v hv; rw [updC_same] at hv; cases hv; exact ⟨w8.heap.size, U, rfl, Cl.at w8 U.vs _ _ rfl, hU9.keep ((Below.refl _ _).alloc (Nat.le_refl _) _), hS9, hh1, hh2⟩
   intro y w9 hall hI
   obtain ⟨hfx, hf1, hf2, hf3, hbl, hq1, hq3, hq4⟩ := hI
   obtain ⟨v1, hv1⟩ := Option.isSome_iff_exists.1 (hall (1, 18) (by simp))
   obtain ⟨v3, hv3⟩ := Option.isSome_iff_exists.1 (hall (3, 20) (by simp))
   obtain ⟨v4, hv4⟩ := Option.isSome_iff_exists.1 (hall (4, 21) (by simp))
   clear hall
   obtain rfl := hq1 v1 hv1
   obtain ⟨U0, rfl, -⟩ := hq3 v3 hv3
   obtain ⟨b9, U, rfl, hL9, hU9, hS9, hh1, hh2⟩ := hq4 v4 hv4
   have HL9 := Lh hL9
   have HU9 := Lh hU9
   have HS9 := Lh hS9
   have HH9 := Lh (And.intro hh1 hh2)
   have F_19 := Lh hf1
   have F_29 := Lh hf2
   have F_39 := Lh hf3
   have HB9 := Lh hbl
   have hS0 := hfx
   clear hL9 hU9 hS9 hh1 hh2 hfx hf1 hf2 hf3 hbl hq1 hq3 hq4
   simp only [putC, setAll, Act.put, sZ, Option.getD_some, hv1, hv3, hv4]
   clear hv1 hv3 hv4
   refine onl (i := 5) (some 22) (.call { callee := .builtin .append, args := #[.tmp 18, .tmp 21], argTypes := #[52, 52] }) 52 (fun K hK => ?_)
   unfold bareOp
   have HOa := Lh (owns_below2 HOy.o HB9.o)
   have HZa := Lh (show (w.heap.size + 1 + 1 + 1) ≤ w9.heap.size from Nat.le_trans HZy.o HB9.o.size)
   have HUa := Lh (show ∀ U, U ∈ Us → VtOff w9 U (Value.slice a8 i c8).ownBlock ∧ highB U.a U.n (w.heap.size + 1 + 1 + 1) ∧ highB U.b U.m (w.heap.size + 1 + 1 + 1) from fun U hU => ⟨(HUy.o U hU).1.keep HB9.o, (HUy.o U hU).2⟩)
   refine wp_push_v2 (.tmp 18) (.tmp 21) rfl (w.heap.size + 1 + 1 + 1) i b9 (.slice a8 i c8) (Us.flatMap Vt.vs) U rfl rfl HOa.o (fun q u hq => by rw [add_pl, Nat.zero_add]; exact HL9.o.c q u hq) (by omega) HZa.o ?_
   intro v10 w10 hown hgr hwh
   obtain ⟨a10, c10, rfl⟩ := own_slice hown
   have HBa := Lh (Below.rowT (n := (w.heap.size + 1 + 1 + 1)) hgr (fun k hk => Nat.le_trans HLN.o (HOa.o.lt k hk).1) (Nat.le_trans HLN.o HZa.o))
   have HO10 := Lh hown
   have HG10 := Lh hgr
   have HW10 := Lh hwh
   have F_1z := Lh (F_19.o.keepN HBa.o (by omega))
   have F_2z := Lh (F_29.o.keepN HBa.o (by omega))
   have F_3z := Lh (F_39.o.keepN HBa.o (by omega))
   clear hown hgr hwh hS0
   refine hK.o _ _ lt8 ?_
   clear hK K
   try simp only [sY]
   refine tkP (i := 6) (some 23) (.fieldAddr 55 (.tmp 3) 0) 0 lt8 ?_
   simp only [sY]
   refine onl (i := 7) none (.store 52 (.tmp 23) (.tmp 22)) 0 (fun K hK => ?_)
   unfold bareOp
   have q0 := F_3z.o.c 0 _ rfl
   have f0 := F_3z.o.f 0
   go_wp2_with fail
   refine hK.o _ _ lt8 ?_
   clear hK K
   try simp only [sY]
   refine wpAnyB_done (by kernel_rfl) ?_ _
   go_wp2_with fail
   go_roundw
   case rel =>
    have hlow : ∀ g, (Value.slice a8 i c8).ownBlock = some g → g < wy.heap.size := fun g hg => (HOy.o.lt g hg).2
    refine ⟨i + 1, .slice a10 (i + 1) c10, by omega, by go_num, F_1z.o.far ⟨(w.heap.size + 1 + 1), 0, none⟩ _ (by simp <;> omega), F_2z.o.far ⟨(w.heap.size + 1 + 1), 0, none⟩ _ (by simp <;> omega), F_3z.o.set (m := [.slice a10 (i + 1) c10, .slice none 0 0, .slice none 0 0]) 0 (.slice a10 (i + 1) c10) (by simp) rfl, (RbV.push HO10.o HG10.o HW10.o HUa.o ⟨HU9.o, HH9.o.1.off hlow, HH9.o.2.off hlow⟩ (HH9.o.1.mono HZy.o) (HH9.o.2.mono HZy.o) HK1.o HVL.o HS9.o.key).box (by have := HLN.o; simp <;> omega) (F_3z.o.c 0 _ rfl), ?_, ?_⟩
    · exact ((HBy.o.trans (HB9.o.mono HBy.o.size)).trans (HBa.o.mono (by omega) : Below (w.heap.size) w9 w10)).setCell (by simp <;> omega) _
    · exact (show (w.heap.size + 1 + 1 + 1) ≤ _ by rw [World.size_setCell]; exact Nat.le_trans HZa.o HG10.o.size)
   case measure => simp [intOf] <;> omega
  case neg =>
   have hd : decide ((i : Int) < (B.n : Int)) = false := decide_eq_false (by omega)
   have hd' : ¬ ((i : Int) < (B.n : Int)) := by omega
   obtain ⟨a1, c1, rfl⟩ := own_slice HR1.o.choose_spec.1
   obtain ⟨wp, rfl⟩ : ∃ x, x = wr := ⟨_, rfl⟩
   obtain ⟨N1, hNn⟩ : ∃ N, wp.heap.size = N := ⟨_, rfl⟩
   have HF1 := Lh (show RdV (w.heap.size + 1 + 1 + 1) N1 (.slice a1 B.n c1) B.n B.l wp from by
    have h := HR1.o.full
    have e : i = B.n := by omega
    subst e
    rw [hNn, List.take_of_length_le (by have := HLL.o; omega)] at h
    exact h)
   obtain rfl : i = B.n := by omega
   have HZ0 := Lh HZ.o
   replace HZ := Lh (show N1 ≤ wp.heap.size from Nat.le_of_eq hNn.symm)
   have HNB := Lh (show (w.heap.size + 1 + 1 + 1) ≤ N1 by have := HLN.o; have := HZ0.o; omega)
   replace HLN := Lh (show (w.heap.size + 1 + 1 + 1) ≤ N1 by have := HLN.o; have := HZ0.o; omega)
   clear hNn HR1
   have a1 := F_1.o.c 1 _ rfl
   go_wp2_with fail
   clear a1 hd hd'
   go_loopw [28] (fun c28 wr => ∃ (i : Nat) (v1 : Value), i ≤ B.m ∧ c28 = .int .i64 i ∧ Hid (Cl wr w.heap.size [.slice B.a B.n B.c, .slice B.b B.m B.d, .slice B.e B.k B.f]) ∧ Hid (Cl wr (w.heap.size + 1) [.slice none 0 0, .slice none 0 0, .slice none 0 0]) ∧ Hid (Cl wr (w.heap.size + 1 + 1) [.slice a1 B.n c1, v1, .slice none 0 0]) ∧ Hid (RbV N1 v1 i (B.l'.take i) wr) ∧ Hid (RdV (w.heap.size + 1 + 1 + 1) N1 (.slice a1 B.n c1) B.n B.l wr) ∧ Hid (Below w.heap.size w wr) ∧ Hid (N1 ≤ wr.heap.size)) (fun c28 _ => B.m - (intOf c28).toNat)
   case atStart => exact ⟨0, .slice none 0 0, by omega, rfl, F_1.o, F_2.o, F_3.o, by rw [List.take_zero]; exact RbV.start _ _, HF1.o, HBW.o, HZ.o⟩
   case round =>
    clear F_1 F_2 F_3 HBW HZ HF1
    obtain ⟨i, v1, hi, rfl, F_1, F_2, F_3, HR1, HF1, HBW, HZ⟩ := hrel
    have hn1 : B.m ≤ 1000 := by have := HS.o.s1; have := HS.o.s2; omega
    have hwi : IntKind.i64.wrap ((i : Int) + 1) = (i : Int) + 1 := IntWalk.i64_in _ (by omega)
    have hi0 : (0 : Int) ≤ (i : Int) := by omega
    by_cases hlt : i < B.m
    case pos =>
     have hi2 : (i : Int) < (B.m : Int) := by omega
     have cV : Tryz.prog.cellsOf 33 = 11 := by kernel_rfl
     obtain ⟨s, o, V, hsa, hVL, hvc, hVin⟩ := (HB.o.keep HBW.o).h2.at i hlt
     have hVn : V.n ≤ 10000 ∧ V.m ≤ 10000 := by have := HS.o.s4 V (List.mem_append.2 (.inr (List.mem_of_getElem? hVL))); omega
     obtain ⟨-, e0, e1, e2, e3, e4, e5, e6, e7, e8, e9, e10⟩ := hvc
     have HVN := Lh hVn
     have HVL := Lh hVL
     have HV := Lh hVin
     obtain ⟨Us, ho1, hu1, hk1⟩ := HR1.o
     obtain ⟨a8, c8, rfl⟩ := own_slice ho1
     have HO1 := Lh ho1
     have HU1 := Lh hu1
     have HK1 := Lh hk1
     clear hVL hVin hVn ho1 hu1 hk1 HR1
     rw [hsa] at F_1 ⊢
     clear hsa
     go_wp2_with fail
     clear e0 e1 e2 e3 e4 e5 e6 e7 e8 e9 e10
     have F_x := Lh (Cl.at wr V.cl 33 wr.heap.size rfl)
     have HY := Lh (show Below wr.heap.size wr (wr.alloc (.cells V.ca 33)) from (Below.refl _ _).alloc (Nat.le_refl _) _)
     have F_1y := Lh (F_1.o.keep HY.o)
     have F_2y := Lh (F_2.o.keep HY.o)
     have F_3y := Lh (F_3.o.keep HY.o)
     have HOy := Lh (owns_below2 HO1.o HY.o)
     have HUy := Lh (show ∀ U, U ∈ Us → VtOff (wr.alloc (.cells V.ca 33)) U (Value.slice a8 i c8).ownBlock ∧ highB U.a U.n N1 ∧ highB U.b U.m N1 from fun U hU => ⟨(HU1.o U hU).1.keep HY.o, (HU1.o U hU).2⟩)
     replace HV := Lh (HV.o.keep HY.o)
     have HBy := Lh (HBW.o.trans (HY.o.mono HBW.o.size))
     have HZy := Lh (show N1 ≤ (wr.alloc (.cells V.ca 33)).heap.size from Nat.le_trans HZ.o HY.o.size)
     generalize (wr.alloc (.cells V.ca 33)) = wy at F_x HY F_1y F_2y F_3y HOy HUy HV HBy HZy ⊢
     replace F_x := Lh F_x.o.drew
     replace F_1y := Lh F_1y.o.drew
     replace F_2y := Lh F_2y.o.drew
     replace F_3y := Lh F_3y.o.drew
     have hS0 := F_x.o
     refine wp_region_stage 3 (fun w' => Cl w' wr.heap.size V.cl) (by kernel_rfl) ?_
     refine tkP (i := 0) (some 32) (.fieldAddr 55 (.tmp 3) 1) 0 (fun _ => hS0) ?_
     simp only [sY]
     refine tkL (i := 2) (some 34) (.load 33 (.tmp 7)) 33 [3] (v := ?_) hS0 (fun w' hSw => ?_) ?_
     rotate_left
     · obtain ⟨⟨q0, q1, q2, q3, q4, q5, q6, q7, q8, q9, q10⟩, -⟩ := hSw.k11
       unfold bareOp; go_simp; try with_reducible rfl
     simp only [sY]
     refine wpAnyB_cloud0 (fuel := 3) [(1, 33), (3, 35), (4, 36)] [] (fun y w' => Cl w' wr.heap.size V.cl ∧ Cl w' w.heap.size [.slice B.a B.n B.c, .slice (some ⟨s, o, none⟩) B.m B.d, .slice B.e B.k B.f] ∧ Cl w' (w.heap.size + 1) [.slice none 0 0, .slice none 0 0, .slice none 0 0] ∧ Cl w' (w.heap.size + 1 + 1) [.slice a1 B.n c1, .slice a8 i c8, .slice none 0 0] ∧ Below wy.heap.size wy w' ∧ (∀ v, y 1 = some v → v = .slice a8 i c8) ∧ (∀ v, y 3 = some v → ∃ U : Vt, v = U.v ∧ VtIn w' U ∧ SameV U V ∧ highB U.a U.n wy.heap.size ∧ highB U.b U.m wy.heap.size) ∧ (∀ v, y 4 = some v → ∃ (b : Nat) (U : Vt), v = .slice (some ⟨b, 0, none⟩) 1 1 ∧ Cl w' b U.vs ∧ VtIn w' U ∧ SameV U V ∧ highB U.a U.n wy.heap.size ∧ highB U.b U.m wy.heap.size)) rfl (by decide) (by decide) (by kernel_rfl) (by kernel_rfl) (by kernel_rfl) (fun _ _ _ _ _ h => h) (fun y w' hI => hI.1) ⟨hS0, F_1y.o, F_2y.o, F_3y.o, (Below.refl _ _).drew, fun v h => (by cases h), fun v h => (by cases h), fun v h => (by cases h)⟩ ?_ ?_
     · intro p hp y w8 hyn hy hrd hI
       obtain ⟨hfx, hf1, hf2, hf3, hbl, hq1, hq3, hq4⟩ := hI
       simp only [List.mem_cons, List.not_mem_nil, or_false] at hp
       rcases hp with rfl | rfl | rfl
       · refine takeN (by kernel_rfl) (wpOp_bare (some 33) (Op.load 52 (Operand.tmp 32)) 52 ⟨_, rfl, rfl, rfl, rfl, rfl⟩ (fun K hK => ?_))
         refine wp_of_run (run_ld_votes _ _ _ _ (.tmp 32) ((eval_putC_not _ _ 32 (by decide)).trans rfl) (hf3.c 1 _ rfl)) (hK.o _ _ ⟨_, rfl, ?_⟩)
         refine ⟨hfx, hf1, hf2, hf3, hbl, ?_, ?_, ?_⟩
         · exact fun v hv => (uS hv).symm
         · exact fun v hv => hq3 v (uN hv)
         · exact fun v hv => hq4 v (uN hv)
       · refine takeN (by kernel_rfl) (wpOp_bare (some 35) (Op.call { callee := Callee.value (Operand.func 48), args := #[Operand.tmp 34], argTypes := #[33] }) 33 ⟨_, rfl, rfl, rfl, rfl, rfl⟩ (fun K hK => ?_))
         refine wp_of_enter (run_call _ _ _ _ 48 Tryz.func48 (vs := #[V.v]) ?hv rfl (by kernel_rfl) (by kernel_rfl)) (twinVote_new (V := V) w8 (HV.o.keep hbl) HVN.o.1 HVN.o.2) ?_
         case hv =>
          simp only [List.map_toArray, List.map_cons, List.map_nil]
          rw [eval_putC_not _ _ 34 (by decide)]
          rfl
         rintro e w9 ⟨U, rfl, hU9, hS9, hh1, hh2, hb9⟩
         refine ⟨_, rfl, hK.o _ _ ⟨_, rfl, ?_⟩⟩
         refine ⟨hfx.keep hb9, hf1.keep hb9, hf2.keep hb9, hf3.keep hb9, hbl.trans (hb9.mono hbl.size), ?_, ?_, ?_⟩
         · exact fun v hv => hq1 v (uN hv)
         · intro v hv; rw [updC_same] at hv; cases hv; exact ⟨U, rfl, hU9, hS9, hh1.mono hbl.size, hh2.mono hbl.size⟩
         · intro v hv; have h := hq4 v (uN hv); obtain ⟨b, U, h1, h2, h3, h4⟩ := h; exact ⟨b, U, h1, h2.keep hb9, h3.keep hb9, h4⟩
       · refine takeN (by kernel_rfl) (wpOp_bare (some 36) (Op.buildSlice 52 1 #[(0, Operand.tmp 35)]) 52 ⟨_, rfl, rfl, rfl, rfl, rfl⟩ (fun K hK => ?_))
         obtain ⟨v3, hv3⟩ := depC hy (j := 3) (d := 35) (by simp) hrd rfl (by kernel_rfl)
         obtain ⟨U, rfl, hU9, hS9, hh1, hh2⟩ := hq3 v3 hv3
         refine wp_of_run (run_lit_vote _ _ _ _ (.tmp 35) U (eval_putC _ _ (j := 3) (d := 35) (by simp) (by decide) hv3 (of_decide_eq_true (by kernel_rfl)))) (hK.o _ _ ⟨_, rfl, ?_⟩)
         refine ⟨hfx.alloc _, hf1.alloc _, hf2.alloc _, hf3.alloc _, hbl.alloc hbl.size _, ?_, ?_, ?_⟩
         · exact fun v hv => hq1 v (uN hv)
         · intro v hv; have h := hq3 v (uN hv); obtain ⟨U, h1, h2, h3⟩ := h; exact ⟨U, h1, h2.keep ((Below.refl _ _).alloc (Nat.le_refl _) _), h3⟩
         · intro v hv; rw [updC_same] at hv; cases hv; exact ⟨w8.heap.size, U, rfl, Cl.at w8 U.vs _ _ rfl, hU9.keep ((Below.refl _ _).alloc (Nat.le_refl _) _), hS9, hh1, hh2⟩
     intro y w9 hall hI
     obtain ⟨hfx, hf1, hf2, hf3, hbl, hq1, hq3, hq4⟩ := hI
     obtain ⟨v1, hv1⟩ := Option.isSome_iff_exists.1 (hall (1, 33) (by simp))
     obtain ⟨v3, hv3⟩ := Option.isSome_iff_exists.1 (hall (3, 35) (by simp))
     obtain ⟨v4, hv4⟩ := Option.isSome_iff_exists.1 (hall (4, 36) (by simp))
     clear hall
     obtain rfl := hq1 v1 hv1
     obtain ⟨U0, rfl, -⟩ := hq3 v3 hv3
     obtain ⟨b9, U, rfl, hL9, hU9, hS9, hh1, hh2⟩ := hq4 v4 hv4
     have HL9 := Lh hL9
     have HU9 := Lh hU9
     have HS9 := Lh hS9
     have HH9 := Lh (And.intro hh1 hh2)
     have F_19 := Lh hf1
     have F_29 := Lh hf2
     have F_39 := Lh hf3
     have HB9 := Lh hbl
     have hS0 := hfx
     clear hL9 hU9 hS9 hh1 hh2 hfx hf1 hf2 hf3 hbl hq1 hq3 hq4
     simp only [putC, setAll, Act.put, sZ, Option.getD_some, hv1, hv3, hv4]
     clear hv1 hv3 hv4
     refine onl (i := 5) (some 37) (.call { callee := .builtin .append, args := #[.tmp 33, .tmp 36], argTypes := #[52, 52] }) 52 (fun K hK => ?_)
     unfold bareOp
     have HOa := Lh (owns_below2 HOy.o HB9.o)
     have HZa := Lh (show N1 ≤ w9.heap.size from Nat.le_trans HZy.o HB9.o.size)
     have HUa := Lh (show ∀ U, U ∈ Us → VtOff w9 U (Value.slice a8 i c8).ownBlock ∧ highB U.a U.n N1 ∧ highB U.b U.m N1 from fun U hU => ⟨(HUy.o U hU).1.keep HB9.o, (HUy.o U hU).2⟩)
     refine wp_push_v2 (.tmp 33) (.tmp 36) rfl N1 i b9 (.slice a8 i c8) (Us.flatMap Vt.vs) U rfl rfl HOa.o (fun q u hq => by rw [add_pl, Nat.zero_add]; exact HL9.o.c q u hq) (by omega) HZa.o ?_
     intro v10 w10 hown hgr hwh
     obtain ⟨a10, c10, rfl⟩ := own_slice hown
     have HBa := Lh (Below.rowT (n := (w.heap.size + 1 + 1 + 1)) hgr (fun k hk => Nat.le_trans HLN.o (HOa.o.lt k hk).1) (Nat.le_trans HLN.o HZa.o))
     have HO10 := Lh hown
     have HG10 := Lh hgr
     have HW10 := Lh hwh
     have F_1z := Lh (F_19.o.keepN HBa.o (by omega))
     have F_2z := Lh (F_29.o.keepN HBa.o (by omega))
     have F_3z := Lh (F_39.o.keepN HBa.o (by omega))
     have HF1z := Lh (show RdV (w.heap.size + 1 + 1 + 1) N1 (.slice a1 B.n c1) B.n B.l w10 from (HF1.o.keep (HY.o.trans (HB9.o.mono HY.o.size))).grown HG10.o (fun g hg => .inr (Nat.le_trans (Nat.le_refl _) (HOa.o.lt g hg).1)))
     clear hown hgr hwh hS0
     refine hK.o _ _ lt8 ?_
     clear hK K
     try simp only [sY]
     refine tkP (i := 6) (some 38) (.fieldAddr 55 (.tmp 3) 1) 0 lt8 ?_
     simp only [sY]
     refine onl (i := 7) none (.store 52 (.tmp 38) (.tmp 37)) 0 (fun K hK => ?_)
     unfold bareOp
     have q0 := F_3z.o.c 1 _ rfl
     have f0 := F_3z.o.f 1
     go_wp2_with fail
     refine hK.o _ _ lt8 ?_
     clear hK K
     try simp only [sY]
     refine wpAnyB_done (by kernel_rfl) ?_ _
     go_wp2_with fail
     go_roundw
     case rel =>
      have hlow : ∀ g, (Value.slice a8 i c8).ownBlock = some g → g < wy.heap.size := fun g hg => (HOy.o.lt g hg).2
      refine ⟨i + 1, .slice a10 (i + 1) c10, by omega, by go_num, F_1z.o.far ⟨(w.heap.size + 1 + 1), 1, none⟩ _ (by simp <;> omega), F_2z.o.far ⟨(w.heap.size + 1 + 1), 1, none⟩ _ (by simp <;> omega), F_3z.o.set (m := [.slice a1 B.n c1, .slice a10 (i + 1) c10, .slice none 0 0]) 1 (.slice a10 (i + 1) c10) (by simp) rfl, (RbV.push HO10.o HG10.o HW10.o HUa.o ⟨HU9.o, HH9.o.1.off hlow, HH9.o.2.off hlow⟩ (HH9.o.1.mono HZy.o) (HH9.o.2.mono HZy.o) HK1.o HVL.o HS9.o.key).box (by have := HLN.o; simp <;> omega) (F_3z.o.c 1 _ rfl), HF1z.o.box (by have := HLN.o; have := HNB.o; simp <;> omega) (F_3z.o.c 1 _ rfl), ?_, ?_⟩
      · exact ((HBy.o.trans (HB9.o.mono HBy.o.size)).trans (HBa.o.mono (by omega) : Below (w.heap.size) w9 w10)).setCell (by simp <;> omega) _
      · exact (show N1 ≤ _ by rw [World.size_setCell]; exact Nat.le_trans HZa.o HG10.o.size)
     case measure => simp [intOf] <;> omega
    case neg =>
     have hd : decide ((i : Int) < (B.m : Int)) = false := decide_eq_false (by omega)
     have hd' : ¬ ((i : Int) < (B.m : Int)) := by omega
     obtain ⟨a2, c2, rfl⟩ := own_slice HR1.o.choose_spec.1
     obtain ⟨wp, rfl⟩ : ∃ x, x = wr := ⟨_, rfl⟩
     obtain ⟨N2, hNn⟩ : ∃ N, wp.heap.size = N := ⟨_, rfl⟩
     have HF2 := Lh (show RdV N1 N2 (.slice a2 B.m c2) B.m B.l' wp from by
      have h := HR1.o.full
      have e : i = B.m := by omega
      subst e
      rw [hNn, List.take_of_length_le (by have := HLL.o; omega)] at h
      exact h)
     obtain rfl : i = B.m := by omega
     have HZ0 := Lh HZ.o
     replace HZ := Lh (show N2 ≤ wp.heap.size from Nat.le_of_eq hNn.symm)
     have HNN := Lh (show N1 ≤ N2 by have := HZ0.o; omega)
     replace HLN := Lh (show (w.heap.size + 1 + 1 + 1) ≤ N2 by have := HLN.o; have := HZ0.o; omega)
     clear hNn HR1
     have a1 := F_1.o.c 2 _ rfl
     go_wp2_with fail
     clear a1 hd hd'
     go_loopw [43] (fun c43 wr => ∃ (i : Nat) (v1 : Value), i ≤ B.k ∧ c43 = .int .i64 i ∧ Hid (Cl wr w.heap.size [.slice B.a B.n B.c, .slice B.b B.m B.d, .slice B.e B.k B.f]) ∧ Hid (Cl wr (w.heap.size + 1) [.slice none 0 0, .slice none 0 0, .slice none 0 0]) ∧ Hid (Cl wr (w.heap.size + 1 + 1) [.slice a1 B.n c1, .slice a2 B.m c2, v1]) ∧ Hid (RbR N2 v1 i (B.rs.take i) wr) ∧ Hid (RdV (w.heap.size + 1 + 1 + 1) N1 (.slice a1 B.n c1) B.n B.l wr) ∧ Hid (RdV N1 N2 (.slice a2 B.m c2) B.m B.l' wr) ∧ Hid (Below w.heap.size w wr) ∧ Hid (N2 ≤ wr.heap.size)) (fun c43 _ => B.k - (intOf c43).toNat)
     case atStart => exact ⟨0, .slice none 0 0, by omega, rfl, F_1.o, F_2.o, F_3.o, by rw [List.take_zero]; exact RbR.start _ _, HF1.o, HF2.o, HBW.o, HZ.o⟩
     case round =>
      clear F_1 F_2 F_3 HBW HZ HF1 HF2
      obtain ⟨i, v1, hi, rfl, F_1, F_2, F_3, HR1, HF1, HF2, HBW, HZ⟩ := hrel
      have hn1 : B.k ≤ 1000 := by have := HS.o.s1; have := HS.o.s2; omega
      have hwi : IntKind.i64.wrap ((i : Int) + 1) = (i : Int) + 1 := IntWalk.i64_in _ (by omega)
      have hi0 : (0 : Int) ≤ (i : Int) := by omega
      by_cases hlt : i < B.k
      case pos =>
       have hi2 : (i : Int) < (B.k : Int) := by omega
       have cR : Tryz.prog.cellsOf 36 = 2 := by kernel_rfl
       obtain ⟨s, o, V, hsa, hVL, hs2, e0, e1, hVin⟩ := (HB.o.keep HBW.o).h3.at i hlt
       have hVn : V.n ≤ 10000 ∧ V.m ≤ 10000 := by have := HS.o.s3 V (List.mem_of_getElem? hVL); omega
       have HVN := Lh hVn
       have HVL := Lh hVL
       have HV := Lh hVin
       obtain ⟨Us, ho1, hu1, hk1⟩ := HR1.o
       obtain ⟨a8, c8, rfl⟩ := own_slice ho1
       have HO1 := Lh ho1
       have HU1 := Lh hu1
       have HK1 := Lh hk1
       clear hVL hVin hVn ho1 hu1 hk1 HR1
       rw [hsa] at F_1 ⊢
       clear hsa
       go_wp2_with fail
       clear e0 e1
       have F_x := Lh (Cl.at wr [.slice V.a V.n V.c, .slice V.b V.m V.d] 36 wr.heap.size rfl)
       have HY := Lh (show Below wr.heap.size wr (wr.alloc (.cells #[.slice V.a V.n V.c, .slice V.b V.m V.d] 36)) from (Below.refl _ _).alloc (Nat.le_refl _) _)
       have F_1y := Lh (F_1.o.keep HY.o)
       have F_2y := Lh (F_2.o.keep HY.o)
       have F_3y := Lh (F_3.o.keep HY.o)
       have HOy := Lh (owns_below2 HO1.o HY.o)
       have HUy := Lh (show ∀ U, U ∈ Us → RvOff (wr.alloc (.cells #[.slice V.a V.n V.c, .slice V.b V.m V.d] 36)) U (Value.slice a8 i c8).ownBlock ∧ highB U.a U.n N2 ∧ highB U.b U.m N2 from fun U hU => ⟨(HU1.o U hU).1.keep HY.o, (HU1.o U hU).2⟩)
       replace HV := Lh (HV.o.keep HY.o)
       have HBy := Lh (HBW.o.trans (HY.o.mono HBW.o.size))
       have HZy := Lh (show N2 ≤ (wr.alloc (.cells #[.slice V.a V.n V.c, .slice V.b V.m V.d] 36)).heap.size from Nat.le_trans HZ.o HY.o.size)
       generalize (wr.alloc (.cells #[.slice V.a V.n V.c, .slice V.b V.m V.d] 36)) = wy at F_x HY F_1y F_2y F_3y HOy HUy HV HBy HZy ⊢
       replace F_x := Lh F_x.o.drew
       replace F_1y := Lh F_1y.o.drew
       replace F_2y := Lh F_2y.o.drew
       replace F_3y := Lh F_3y.o.drew
       have hS0 := F_x.o
       refine wp_region_stage 3 (fun w' => Cl w' wr.heap.size [.slice V.a V.n V.c, .slice V.b V.m V.d]) (by kernel_rfl) ?_
       refine tkP (i := 0) (some 47) (.fieldAddr 55 (.tmp 3) 2) 0 (fun _ => hS0) ?_
       simp only [sY]
       refine tkL (i := 2) (some 49) (.load 36 (.tmp 9)) 36 [3] (v := ?_) hS0 (fun w' hSw => ?_) ?_
       rotate_left
       · have q0 := hSw.c 0 _ rfl; have q1 := hSw.c 1 _ rfl
         unfold bareOp; go_simp; try with_reducible rfl
       simp only [sY]
       refine wpAnyB_cloud0 (fuel := 3) [(1, 48), (3, 50), (4, 51)] [] (fun y w' => Cl w' wr.heap.size [.slice V.a V.n V.c, .slice V.b V.m V.d] ∧ Cl w' w.heap.size [.slice B.a B.n B.c, .slice B.b B.m B.d, .slice (some ⟨s, o, none⟩) B.k B.f] ∧ Cl w' (w.heap.size + 1) [.slice none 0 0, .slice none 0 0, .slice none 0 0] ∧ Cl w' (w.heap.size + 1 + 1) [.slice a1 B.n c1, .slice a2 B.m c2, .slice a8 i c8] ∧ Below wy.heap.size wy w' ∧ (∀ v, y 1 = some v → v = .slice a8 i c8) ∧ (∀ v, y 3 = some v → ∃ U : Rv, v = U.v ∧ RvIn w' U ∧ SameR U V ∧ highB U.a U.n wy.heap.size ∧ highB U.b U.m wy.heap.size) ∧ (∀ v, y 4 = some v → ∃ (b : Nat) (U : Rv), v = .slice (some ⟨b, 0, none⟩) 1 1 ∧ Cl w' b U.vs ∧ RvIn w' U ∧ SameR U V ∧ highB U.a U.n wy.heap.size ∧ highB U.b U.m wy.heap.size)) rfl (by decide) (by decide) (by kernel_rfl) (by kernel_rfl) (by kernel_rfl) (fun _ _ _ _ _ h => h) (fun y w' hI => hI.1) ⟨hS0, F_1y.o, F_2y.o, F_3y.o, (Below.refl _ _).drew, fun v h => (by cases h), fun v h => (by cases h), fun v h => (by cases h)⟩ ?_ ?_
       · intro p hp y w8 hyn hy hrd hI
         obtain ⟨hfx, hf1, hf2, hf3, hbl, hq1, hq3, hq4⟩ := hI
         simp only [List.mem_cons, List.not_mem_nil, or_false] at hp
         rcases hp with rfl | rfl | rfl
         · refine takeN (by kernel_rfl) (wpOp_bare (some 48) (Op.load 53 (Operand.tmp 47)) 53 ⟨_, rfl, rfl, rfl, rfl, rfl⟩ (fun K hK => ?_))
           refine wp_of_run (run_ld_revs _ _ _ _ (.tmp 47) ((eval_putC_not _ _ 47 (by decide)).trans rfl) (hf3.c 2 _ rfl)) (hK.o _ _ ⟨_, rfl, ?_⟩)
           refine ⟨hfx, hf1, hf2, hf3, hbl, ?_, ?_, ?_⟩
           · exact fun v hv => (uS hv).symm
           · exact fun v hv => hq3 v (uN hv)
           · exact fun v hv => hq4 v (uN hv)
         · refine takeN (by kernel_rfl) (wpOp_bare (some 50) (Op.call { callee := Callee.value (Operand.func 50), args := #[Operand.tmp 49], argTypes := #[36] }) 36 ⟨_, rfl, rfl, rfl, rfl, rfl⟩ (fun K hK => ?_))
           refine wp_of_enter (run_call _ _ _ _ 50 Tryz.func50 (vs := #[V.v]) ?hv rfl (by kernel_rfl) (by kernel_rfl)) (twinReveal_new (R := V) w8 (HV.o.keep hbl) HVN.o.1 HVN.o.2) ?_
           case hv =>
            simp only [List.map_toArray, List.map_cons, List.map_nil]
            rw [eval_putC_not _ _ 49 (by decide)]
            rfl
           rintro e w9 ⟨U, rfl, hU9, hS9, hh1, hh2, hb9⟩
           refine ⟨_, rfl, hK.o _ _ ⟨_, rfl, ?_⟩⟩
           refine ⟨hfx.keep hb9, hf1.keep hb9, hf2.keep hb9, hf3.keep hb9, hbl.trans (hb9.mono hbl.size), ?_, ?_, ?_⟩
           · exact fun v hv => hq1 v (uN hv)
           · intro v hv; rw [updC_same] at hv; cases hv; exact ⟨U, rfl, hU9, hS9, hh1.mono hbl.size, hh2.mono hbl.size⟩
           · intro v hv; have h := hq4 v (uN hv); obtain ⟨b, U, h1, h2, h3, h4⟩ := h; exact ⟨b, U, h1, h2.keep hb9, h3.keep hb9, h4⟩
         · refine takeN (by kernel_rfl) (wpOp_bare (some 51) (Op.buildSlice 53 1 #[(0, Operand.tmp 50)]) 53 ⟨_, rfl, rfl, rfl, rfl, rfl⟩ (fun K hK => ?_))
           obtain ⟨v3, hv3⟩ := depC hy (j := 3) (d := 50) (by simp) hrd rfl (by kernel_rfl)
           obtain ⟨U, rfl, hU9, hS9, hh1, hh2⟩ := hq3 v3 hv3
           refine wp_of_run (run_lit_rev _ _ _ _ (.tmp 50) U (eval_putC _ _ (j := 3) (d := 50) (by simp) (by decide) hv3 (of_decide_eq_true (by kernel_rfl)))) (hK.o _ _ ⟨_, rfl, ?_⟩)
           refine ⟨hfx.alloc _, hf1.alloc _, hf2.alloc _, hf3.alloc _, hbl.alloc hbl.size _, ?_, ?_, ?_⟩
           · exact fun v hv => hq1 v (uN hv)
           · intro v hv; have h := hq3 v (uN hv); obtain ⟨U, h1, h2, h3⟩ := h; exact ⟨U, h1, h2.keep ((Below.refl _ _).alloc (Nat.le_refl _) _), h3⟩
           · intro v hv; rw [updC_same] at hv; cases hv; exact ⟨w8.heap.size, U, rfl, Cl.at w8 U.vs _ _ rfl, hU9.keep ((Below.refl _ _).alloc (Nat.le_refl _) _), hS9, hh1, hh2⟩
       intro y w9 hall hI
       obtain ⟨hfx, hf1, hf2, hf3, hbl, hq1, hq3, hq4⟩ := hI
       obtain ⟨v1, hv1⟩ := Option.isSome_iff_exists.1 (hall (1, 48) (by simp))
       obtain ⟨v3, hv3⟩ := Option.isSome_iff_exists.1 (hall (3, 50) (by simp))
       obtain ⟨v4, hv4⟩ := Option.isSome_iff_exists.1 (hall (4, 51) (by simp))
       clear hall
       obtain rfl := hq1 v1 hv1
       obtain ⟨U0, rfl, -⟩ := hq3 v3 hv3
       obtain ⟨b9, U, rfl, hL9, hU9, hS9, hh1, hh2⟩ := hq4 v4 hv4
       have HL9 := Lh hL9
       have HU9 := Lh hU9
       have HS9 := Lh hS9
       have HH9 := Lh (And.intro hh1 hh2)
       have F_19 := Lh hf1
       have F_29 := Lh hf2
       have F_39 := Lh hf3
       have HB9 := Lh hbl
       have hS0 := hfx
       clear hL9 hU9 hS9 hh1 hh2 hfx hf1 hf2 hf3 hbl hq1 hq3 hq4
       simp only [putC, setAll, Act.put, sZ, Option.getD_some, hv1, hv3, hv4]
       clear hv1 hv3 hv4
       refine onl (i := 5) (some 52) (.call { callee := .builtin .append, args := #[.tmp 48, .tmp 51], argTypes := #[53, 53] }) 53 (fun K hK => ?_)
       unfold bareOp
       have HOa := Lh (owns_below2 HOy.o HB9.o)
       have HZa := Lh (show N2 ≤ w9.heap.size from Nat.le_trans HZy.o HB9.o.size)
       have HUa := Lh (show ∀ U, U ∈ Us → RvOff w9 U (Value.slice a8 i c8).ownBlock ∧ highB U.a U.n N2 ∧ highB U.b U.m N2 from fun U hU => ⟨(HUy.o U hU).1.keep HB9.o, (HUy.o U hU).2⟩)
       refine wp_push_r2 (.tmp 48) (.tmp 51) rfl N2 i b9 (.slice a8 i c8) (Us.flatMap Rv.vs) U rfl rfl HOa.o (fun q u hq => by rw [add_pl, Nat.zero_add]; exact HL9.o.c q u hq) (by omega) HZa.o ?_
       intro v10 w10 hown hgr hwh
       obtain ⟨a10, c10, rfl⟩ := own_slice hown
       have HBa := Lh (Below.rowT (n := (w.heap.size + 1 + 1 + 1)) hgr (fun k hk => Nat.le_trans HLN.o (HOa.o.lt k hk).1) (Nat.le_trans HLN.o HZa.o))
       have HO10 := Lh hown
       have HG10 := Lh hgr
       have HW10 := Lh hwh
       have F_1z := Lh (F_19.o.keepN HBa.o (by omega))
       have F_2z := Lh (F_29.o.keepN HBa.o (by omega))
       have F_3z := Lh (F_39.o.keepN HBa.o (by omega))
       have HF1z := Lh (show RdV (w.heap.size + 1 + 1 + 1) N1 (.slice a1 B.n c1) B.n B.l w10 from (HF1.o.keep (HY.o.trans (HB9.o.mono HY.o.size))).grown HG10.o (fun g hg => .inr (Nat.le_trans HNN.o (HOa.o.lt g hg).1)))
       have HF2z := Lh (show RdV N1 N2 (.slice a2 B.m c2) B.m B.l' w10 from (HF2.o.keep (HY.o.trans (HB9.o.mono HY.o.size))).grown HG10.o (fun g hg => .inr (Nat.le_trans (Nat.le_refl _) (HOa.o.lt g hg).1)))
       clear hown hgr hwh hS0
       refine hK.o _ _ lt8 ?_
       clear hK K
       try simp only [sY]
       refine tkP (i := 6) (some 53) (.fieldAddr 55 (.tmp 3) 2) 0 lt8 ?_
       simp only [sY]
       refine onl (i := 7) none (.store 53 (.tmp 53) (.tmp 52)) 0 (fun K hK => ?_)
       unfold bareOp
       have q0 := F_3z.o.c 2 _ rfl
       have f0 := F_3z.o.f 2
       go_wp2_with fail
       refine hK.o _ _ lt8 ?_
       clear hK K
       try simp only [sY]
       refine wpAnyB_done (by kernel_rfl) ?_ _
       go_wp2_with fail
       go_roundw
       case rel =>
        have hlow : ∀ g, (Value.slice a8 i c8).ownBlock = some g → g < wy.heap.size := fun g hg => (HOy.o.lt g hg).2
        refine ⟨i + 1, .slice a10 (i + 1) c10, by omega, by go_num, F_1z.o.far ⟨(w.heap.size + 1 + 1), 2, none⟩ _ (by simp <;> omega), F_2z.o.far ⟨(w.heap.size + 1 + 1), 2, none⟩ _ (by simp <;> omega), F_3z.o.set (m := [.slice a1 B.n c1, .slice a2 B.m c2, .slice a10 (i + 1) c10]) 2 (.slice a10 (i + 1) c10) (by simp) rfl, (RbR.push HO10.o HG10.o HW10.o HUa.o ⟨HU9.o, HH9.o.1.off hlow, HH9.o.2.off hlow⟩ (HH9.o.1.mono HZy.o) (HH9.o.2.mono HZy.o) HK1.o HVL.o HS9.o.key).box (by have := HLN.o; simp <;> omega) (F_3z.o.c 2 _ rfl), HF1z.o.box (by have := HLN.o; have := HNB.o; simp <;> omega) (F_3z.o.c 2 _ rfl), HF2z.o.box (by have := HLN.o; have := HNB.o; simp <;> omega) (F_3z.o.c 2 _ rfl), ?_, ?_⟩
        · exact ((HBy.o.trans (HB9.o.mono HBy.o.size)).trans (HBa.o.mono (by omega) : Below (w.heap.size) w9 w10)).setCell (by simp <;> omega) _
        · exact (show N2 ≤ _ by rw [World.size_setCell]; exact Nat.le_trans HZa.o HG10.o.size)
       case measure => simp [intOf] <;> omega
      case neg =>
       have hd : decide ((i : Int) < (B.k : Int)) = false := decide_eq_false (by omega)
       have hd' : ¬ ((i : Int) < (B.k : Int)) := by omega
       obtain ⟨a3, c3, rfl⟩ := own_slice HR1.o.choose_spec.1
       have HF3 := Lh (show RdR N2 wr.heap.size (.slice a3 B.k c3) B.k B.rs wr from by
        have h := HR1.o.full
        have e : i = B.k := by omega
        subst e
        rw [List.take_of_length_le (by have := HLL.o; omega)] at h
        exact h)
       obtain rfl : i = B.k := by omega
       clear HR1
       go_wp2_with (first
        | (refine wpL_loadCl rfl 55 (.tmp 3) (w.heap.size + 1 + 1) _ rfl rfl _ Tryz.underlying55 rfl (by kernel_rfl) F_3.o ?_)
        | (refine wpL_storeCl rfl 55 (.tmp 2) (.tmp 55) (w.heap.size + 1) 0 _ [.slice a1 B.n c1, .slice a2 B.m c2, .slice a3 B.k c3] [.slice a1 B.n c1, .slice a2 B.m c2, .slice a3 B.k c3] rfl rfl rfl rfl (by kernel_rfl) (by intro u hu; simp at hu; rcases hu with rfl | rfl | rfl <;> rfl) F_2.o (by simp) rfl ?_
           intro w8 hc8 hg8 hz8
           have F_q := Lh hc8
           have HG8 := Lh hg8
           have HZ8 := Lh hz8
           clear hc8 hg8 hz8))
       refine bodyPost_ret (res_booth1 rfl F_q.o _ rfl) rfl ?_
       have hLN := HLN.o
       have hNB := HNB.o
       have hNN := HNN.o
       refine ⟨⟨_, _, _, N1, N2, wr.heap.size, rfl, by omega, hNN, HZ.o, Nat.le_of_eq HZ8.o.symm, ?_, ?_, ?_⟩, HBW.o.trans (HG8.o.blw (n := w.heap.size) (by omega) HBW.o.size)⟩
       · exact (HF1.o.grown HG8.o.grown (fun g hg => by cases hg; exact .inl (by omega))).lo (by omega)
       · exact HF2.o.grown HG8.o.grown (fun g hg => by cases hg; exact .inl (by omega))
       · exact HF3.o.grown HG8.o.grown (fun g hg => by cases hg; exact .inl (by omega))
end Go.Proofs.YtlbldpkgnonbpaaGreatDoor
