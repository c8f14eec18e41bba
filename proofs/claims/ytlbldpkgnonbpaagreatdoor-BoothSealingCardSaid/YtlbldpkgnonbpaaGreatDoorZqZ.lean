/- The reference's May, Check. -/
import Derived.Test.YtlbldpkgnonbpaaGreatDoorZqS
import Derived.Test.YtlbldpkgnonbpaaGreatDoorZqY
set_option linter.unusedSimpArgs false
set_option linter.unusedVariables false
set_option maxRecDepth 100000
namespace Go.Proofs.YtlbldpkgnonbpaaGreatDoor
open Go Go.RowKit Num Sha
theorem BCells.keep {w w' : World} {s p : Nat} {z : Bt} (h : BCells w s p z) (hb : Below w.heap.size w w') : BCells w' s p z :=
  ⟨Nat.lt_of_lt_of_le h.lt hb.size, (hb.cell (p := ⟨s, p, none⟩) h.lt).trans h.c0, (hb.cell (p := ⟨s, p + 1, none⟩) h.lt).trans h.c1, (hb.cell (p := ⟨s, p + 2, none⟩) h.lt).trans h.c2, (hb.cell (p := ⟨s, p + 3, none⟩) h.lt).trans h.c3, (hb.cell (p := ⟨s, p + 4, none⟩) h.lt).trans h.c4, (hb.cell (p := ⟨s, p + 5, none⟩) h.lt).trans h.c5, (hb.cell (p := ⟨s, p + 6, none⟩) h.lt).trans h.c6, (hb.cell (p := ⟨s, p + 7, none⟩) h.lt).trans h.c7⟩
theorem provB_lt {P Q G y a b x : Int} {z : Bt} (hH : Has P Q G) (h : provB P Q G y a b z x) : a < P ∧ b < P := by
 have h1 := h.1
 unfold askS at h1
 rw [if_pos hH] at h1
 split at h1
 · next h2 =>
   simp only [okAll, List.all_cons, List.all_nil, Bool.and_true, Bool.and_eq_true, decide_eq_true_eq] at h2
   exact ⟨h2.2.2.1, h2.2.2.2.1⟩
 · cases h1
theorem okS_all {P Q G y : Int} {bs : List (Int × Int)} {ps : List Bt} (hH : Has P Q G) (h : ∀ i, i < bs.length → provB P Q G y (bs.getD i (0, 0)).1 (bs.getD i (0, 0)).2 (ps.getD i Bt.zero) (i : Int)) : okS P bs = true := by
 simp only [okS, List.all_eq_true, Bool.and_eq_true, decide_eq_true_eq]
 intro q hq
 obtain ⟨i, hi, rfl⟩ := List.getElem_of_mem hq
 have := provB_lt hH (h i hi)
 rw [List.getD_eq_getElem?_getD, List.getElem?_eq_getElem hi] at this
 exact this
set_option maxHeartbeats 16000000 in
theorem rmay_aux {P Q G y : Int} {a b : Option Addr} {n c d : Nat} {bs : List (Int × Int)} {ps : List Bt} {one : Bool} {z : Bt} {v : Bool} (w : World) (hT : Tabs w) (hH : Has P Q G) (hy : 0 ≤ y) (hn : n ≤ 10) (hn1 : 1 ≤ n)
    (h1 : ShS w a n bs) (u1 : ∀ q, q ∈ bs → U64 q.1 ∧ U64 q.2) (h2 : ShB w b n ps) (u2 : ∀ q, q ∈ ps → q.u) (uz : z.u)
    (hv : v = true ↔ (∀ i, i < n → provB P Q G y (bs.getD i (0, 0)).1 (bs.getD i (0, 0)).2 (ps.getD i Bt.zero) (i : Int)) ∧ ((one = true ∧ okS P bs = true ∧ provB P Q G y (allP P bs).1 (allP P bs).2 z 255) ∨ (one = false ∧ z = Bt.zero))) :
    Calls Tryz.prog 42 #[(.agg #[.int .u64 P, .int .u64 Q, .int .u64 G]), .int .u64 y, .int .i64 (n : Int), .agg #[.slice a n c, .slice b n d, .bool one, .int .u64 z.r0, .int .u64 z.r1, .int .u64 z.s0, .int .u64 z.s1, .int .u64 z.c0, .int .u64 z.c1, .int .u64 z.z0, .int .u64 z.z1]] w fun e w' => e = .returned (.bool v) ∧ Below w.heap.size w w' := by
  have hP : 0 ≤ P := by obtain ⟨p5, p3, hQ, pq, g2, gP⟩ := id hH; omega
  have hG : 0 ≤ G := by obtain ⟨p5, p3, hQ, pq, g2, gP⟩ := id hH; omega
  have hQ : 0 ≤ Q := by obtain ⟨p5, p3, hQ, pq, g2, gP⟩ := id hH; omega
  obtain ⟨s, o, hsa, -⟩ := h1.at 0 (by omega)
  obtain ⟨s', o', -, hsb, -⟩ := h2.at 0 (by omega)
  subst hsa hsb
  have HH := Lh hH
  have HT := Lh hT
  have H1 := Lh h1
  have H2 := Lh h2
  have HL1 := Lh h1.len
  have U1 := Lh u1
  have U2 := Lh u2
  have UZ := Lh uz
  have HV := Lh hv
  clear hT h1 h2 u1 u2 uz hv hH
  have F_g := Lh (show Cl ((w.alloc (.cells #[.int .u64 P, .int .u64 Q, .int .u64 G] 24)).alloc (.cells #[.slice (some ⟨s, o, none⟩) n c, .slice (some ⟨s', o', none⟩) n d, .bool one, .int .u64 z.r0, .int .u64 z.r1, .int .u64 z.s0, .int .u64 z.s1, .int .u64 z.c0, .int .u64 z.c1, .int .u64 z.z0, .int .u64 z.z1] 33)) (w.heap.size) [.int .u64 P, .int .u64 Q, .int .u64 G] from (Cl.at w [.int .u64 P, .int .u64 Q, .int .u64 G] 24 (w.heap.size) (by simp)).alloc _)
  have F_v := Lh (show Cl ((w.alloc (.cells #[.int .u64 P, .int .u64 Q, .int .u64 G] 24)).alloc (.cells #[.slice (some ⟨s, o, none⟩) n c, .slice (some ⟨s', o', none⟩) n d, .bool one, .int .u64 z.r0, .int .u64 z.r1, .int .u64 z.s0, .int .u64 z.s1, .int .u64 z.c0, .int .u64 z.c1, .int .u64 z.z0, .int .u64 z.z1] 33)) (w.heap.size + 1) [.slice (some ⟨s, o, none⟩) n c, .slice (some ⟨s', o', none⟩) n d, .bool one, .int .u64 z.r0, .int .u64 z.r1, .int .u64 z.s0, .int .u64 z.s1, .int .u64 z.c0, .int .u64 z.c1, .int .u64 z.z0, .int .u64 z.z1] from Cl.at (w.alloc (.cells #[.int .u64 P, .int .u64 Q, .int .u64 G] 24)) [.slice (some ⟨s, o, none⟩) n c, .slice (some ⟨s', o', none⟩) n d, .bool one, .int .u64 z.r0, .int .u64 z.r1, .int .u64 z.s0, .int .u64 z.s1, .int .u64 z.c0, .int .u64 z.c1, .int .u64 z.z0, .int .u64 z.z1] 33 (w.heap.size + 1) (by simp))
  have HBW := Lh (show Below w.heap.size w ((w.alloc (.cells #[.int .u64 P, .int .u64 Q, .int .u64 G] 24)).alloc (.cells #[.slice (some ⟨s, o, none⟩) n c, .slice (some ⟨s', o', none⟩) n d, .bool one, .int .u64 z.r0, .int .u64 z.r1, .int .u64 z.s0, .int .u64 z.s1, .int .u64 z.c0, .int .u64 z.c1, .int .u64 z.z0, .int .u64 z.z1] 33)) from ((Below.refl _ _).alloc (by simp <;> omega) _).alloc (by simp <;> omega) _)
  go_enter Tryz.func42, Tryz.ntmps42
  have q_v_0 := F_v.o.c 0 _ rfl
  have q_v_1 := F_v.o.c 1 _ rfl
  have q_v_2 := F_v.o.c 2 _ rfl
  have q_v_3 := F_v.o.c 3 _ rfl
  have q_v_4 := F_v.o.c 4 _ rfl
  have q_v_5 := F_v.o.c 5 _ rfl
  have q_v_6 := F_v.o.c 6 _ rfl
  have q_v_7 := F_v.o.c 7 _ rfl
  have q_v_8 := F_v.o.c 8 _ rfl
  have q_v_9 := F_v.o.c 9 _ rfl
  have q_v_10 := F_v.o.c 10 _ rfl
  go_wp2_with fail
  clear q_v_0 q_v_1 q_v_2 q_v_3 q_v_4 q_v_5 q_v_6 q_v_7 q_v_8 q_v_9 q_v_10
  go_loopw [9] (fun c9 wr => ∃ i : Nat, i ≤ n ∧ c9 = .int .i64 i ∧ Hid (∀ j, j < i → provB P Q G y (bs.getD j (0, 0)).1 (bs.getD j (0, 0)).2 (ps.getD j Bt.zero) (j : Int)) ∧ Hid (Cl wr w.heap.size [.int .u64 P, .int .u64 Q, .int .u64 G]) ∧ Hid (Cl wr (w.heap.size + 1) [.slice (some ⟨s, o, none⟩) n c, .slice (some ⟨s', o', none⟩) n d, .bool one, .int .u64 z.r0, .int .u64 z.r1, .int .u64 z.s0, .int .u64 z.s1, .int .u64 z.c0, .int .u64 z.c1, .int .u64 z.z0, .int .u64 z.z1]) ∧ Hid (Below w.heap.size w wr)) (fun c9 _ => n - (intOf c9).toNat)
  case atStart => exact ⟨0, by omega, rfl, Lh (fun j hj => by omega), F_g.o, F_v.o, HBW.o⟩
  case round =>
   clear F_g F_v HBW
   obtain ⟨i, hi, rfl, HPR, F_g, F_v, HBW⟩ := hrel
   by_cases hlt : i < n
   case pos =>
    have hd : decide ((i : Int) < (n : Int)) = true := decide_eq_true (by omega)
    have hi0 : (0 : Int) ≤ (i : Int) := by omega
    have hi2 : (i : Int) < (n : Int) := by omega
    have hwi : IntKind.i64.wrap ((i : Int) + 1) = (i : Int) + 1 := IntWalk.i64_in _ (by omega)
    have hw8 : IntKind.u8.wrap (i : Int) = (i : Int) := IntWalk.u8_in _ (by omega)
    have cS : Tryz.prog.cellsOf 75 = 2 := by kernel_rfl
    have cB : Tryz.prog.cellsOf 31 = 8 := by kernel_rfl
    obtain ⟨s1, o1, hsa, hsl, e0, e1⟩ := H1.o.at i hlt
    injection hsa with hsa; injection hsa with ea eb _; subst ea eb
    obtain ⟨x, x2, hxy⟩ : ∃ x y, bs.getD i (0, 0) = (x, y) := ⟨_, _, rfl⟩
    rw [hxy] at e0 e1
    simp only at e0 e1
    have hxm : (x, x2) ∈ bs := by
     have hl : i < bs.length := by rw [← H1.o.len]; exact hlt
     rw [← hxy, List.getD_eq_getElem?_getD, List.getElem?_eq_getElem hl]; exact List.getElem_mem hl
    have HXN := Lh (show 0 ≤ x ∧ 0 ≤ x2 from ⟨(U1.o _ hxm).1.1, (U1.o _ hxm).2.1⟩)
    obtain ⟨s2, o2, zi, hsb, hz_, hbc⟩ := H2.o.at i hlt
    injection hsb with hsb; injection hsb with ea eb _; subst ea eb
    have HZI := Lh (show zi.u from U2.o zi (List.mem_of_getElem? hz_))
    have HBC := Lh hbc
    have HPI := Lh (show provB P Q G y (bs.getD i (0, 0)).1 (bs.getD i (0, 0)).2 (ps.getD i Bt.zero) (i : Int) ↔ provB P Q G y x x2 zi (i : Int) by rw [hxy, List.getD_eq_getElem?_getD, hz_]; rfl)
    have F_e := Lh (show (w.cell? ⟨s, o + i * 2, none⟩ = some (.int .u64 x) ∧ w.cell? ⟨s, o + i * 2 + 1, none⟩ = some (.int .u64 x2)) ∧ s < w.heap.size from ⟨⟨e0, e1⟩, hsl⟩)
    clear hxy hxm hsl hz_ hbc e0 e1
    obtain ⟨v1, hv1⟩ := Prop.bool (provB P Q G y x x2 zi (i : Int))
    have HV1 := Lh hv1
    clear hv1
    go_wp2_with fail
    have hS0 : Below wr.heap.size wr wr.drew := (Below.refl _ _).drew
    refine wp_region_stage 14 (fun w' => Below wr.heap.size wr w') (by kernel_rfl) ?_
    refine tkL (i := 0) (some 27) (.load 24 (.tmp 4)) 24 [14] (v := ?_) hS0 (fun w' hSw => ?_) ?_
    rotate_left
    · have g0 := (F_g.o.keep hSw).c 0 _ rfl; have g1 := (F_g.o.keep hSw).c 1 _ rfl; have g2 := (F_g.o.keep hSw).c 2 _ rfl; have q0 := (F_v.o.keep hSw).c 0 _ rfl; have q1 := (F_v.o.keep hSw).c 1 _ rfl; have q2 := (F_v.o.keep hSw).c 2 _ rfl; have q3 := (F_v.o.keep hSw).c 3 _ rfl; have q4 := (F_v.o.keep hSw).c 4 _ rfl; have q5 := (F_v.o.keep hSw).c 5 _ rfl; have q6 := (F_v.o.keep hSw).c 6 _ rfl; have q7 := (F_v.o.keep hSw).c 7 _ rfl; have q8 := (F_v.o.keep hSw).c 8 _ rfl; have q9 := (F_v.o.keep hSw).c 9 _ rfl; have q10 := (F_v.o.keep hSw).c 10 _ rfl; have e0 := ((HBW.o.trans (hSw.mono HBW.o.size)).cell (p := ⟨s, o + i * 2, none⟩) F_e.o.2).trans F_e.o.1.1; have e1 := ((HBW.o.trans (hSw.mono HBW.o.size)).cell (p := ⟨s, o + i * 2 + 1, none⟩) F_e.o.2).trans F_e.o.1.2; obtain ⟨-, b0, b1, b2, b3, b4, b5, b6, b7⟩ := HBC.o.keep (show Below w.heap.size w _ from HBW.o.trans (hSw.mono HBW.o.size))
      unfold bareOp; go_simp; try with_reducible rfl
    simp only [sY]
    refine tkP (i := 1) (some 28) (.move (.tmp 1)) 22 (fun _ => hS0) ?_
    simp only [sY]
    refine tkP (i := 2) (some 29) (.fieldAddr 33 (.tmp 7) 0) 0 (fun _ => hS0) ?_
    simp only [sY]
    refine tkL (i := 3) (some 30) (.load 27 (.tmp 29)) 27 [5, 6, 14] (v := ?_) hS0 (fun w' hSw => ?_) ?_
    rotate_left
    · have g0 := (F_g.o.keep hSw).c 0 _ rfl; have g1 := (F_g.o.keep hSw).c 1 _ rfl; have g2 := (F_g.o.keep hSw).c 2 _ rfl; have q0 := (F_v.o.keep hSw).c 0 _ rfl; have q1 := (F_v.o.keep hSw).c 1 _ rfl; have q2 := (F_v.o.keep hSw).c 2 _ rfl; have q3 := (F_v.o.keep hSw).c 3 _ rfl; have q4 := (F_v.o.keep hSw).c 4 _ rfl; have q5 := (F_v.o.keep hSw).c 5 _ rfl; have q6 := (F_v.o.keep hSw).c 6 _ rfl; have q7 := (F_v.o.keep hSw).c 7 _ rfl; have q8 := (F_v.o.keep hSw).c 8 _ rfl; have q9 := (F_v.o.keep hSw).c 9 _ rfl; have q10 := (F_v.o.keep hSw).c 10 _ rfl; have e0 := ((HBW.o.trans (hSw.mono HBW.o.size)).cell (p := ⟨s, o + i * 2, none⟩) F_e.o.2).trans F_e.o.1.1; have e1 := ((HBW.o.trans (hSw.mono HBW.o.size)).cell (p := ⟨s, o + i * 2 + 1, none⟩) F_e.o.2).trans F_e.o.1.2; obtain ⟨-, b0, b1, b2, b3, b4, b5, b6, b7⟩ := HBC.o.keep (show Below w.heap.size w _ from HBW.o.trans (hSw.mono HBW.o.size))
      unfold bareOp; go_simp; try with_reducible rfl
    simp only [sY]
    refine tkP (i := 4) (some 31) (.move (.tmp 9)) 3 (fun _ => hS0) ?_
    simp only [sY]
    refine tkP (i := 5) (some 32) (.indexAddr 27 (.tmp 30) (.tmp 31)) 0 (fun _ => hS0) ?_
    simp only [sY]
    refine tkL (i := 6) (some 33) (.load 75 (.tmp 32)) 75 [14] (v := ?_) hS0 (fun w' hSw => ?_) ?_
    rotate_left
    · have g0 := (F_g.o.keep hSw).c 0 _ rfl; have g1 := (F_g.o.keep hSw).c 1 _ rfl; have g2 := (F_g.o.keep hSw).c 2 _ rfl; have q0 := (F_v.o.keep hSw).c 0 _ rfl; have q1 := (F_v.o.keep hSw).c 1 _ rfl; have q2 := (F_v.o.keep hSw).c 2 _ rfl; have q3 := (F_v.o.keep hSw).c 3 _ rfl; have q4 := (F_v.o.keep hSw).c 4 _ rfl; have q5 := (F_v.o.keep hSw).c 5 _ rfl; have q6 := (F_v.o.keep hSw).c 6 _ rfl; have q7 := (F_v.o.keep hSw).c 7 _ rfl; have q8 := (F_v.o.keep hSw).c 8 _ rfl; have q9 := (F_v.o.keep hSw).c 9 _ rfl; have q10 := (F_v.o.keep hSw).c 10 _ rfl; have e0 := ((HBW.o.trans (hSw.mono HBW.o.size)).cell (p := ⟨s, o + i * 2, none⟩) F_e.o.2).trans F_e.o.1.1; have e1 := ((HBW.o.trans (hSw.mono HBW.o.size)).cell (p := ⟨s, o + i * 2 + 1, none⟩) F_e.o.2).trans F_e.o.1.2; obtain ⟨-, b0, b1, b2, b3, b4, b5, b6, b7⟩ := HBC.o.keep (show Below w.heap.size w _ from HBW.o.trans (hSw.mono HBW.o.size))
      unfold bareOp; go_simp; try with_reducible rfl
    simp only [sY]
    refine tkP (i := 7) (some 34) (.fieldAddr 33 (.tmp 7) 1) 0 (fun _ => hS0) ?_
    simp only [sY]
    refine tkL (i := 8) (some 35) (.load 28 (.tmp 34)) 28 [10, 11, 14] (v := ?_) hS0 (fun w' hSw => ?_) ?_
    rotate_left
    · have g0 := (F_g.o.keep hSw).c 0 _ rfl; have g1 := (F_g.o.keep hSw).c 1 _ rfl; have g2 := (F_g.o.keep hSw).c 2 _ rfl; have q0 := (F_v.o.keep hSw).c 0 _ rfl; have q1 := (F_v.o.keep hSw).c 1 _ rfl; have q2 := (F_v.o.keep hSw).c 2 _ rfl; have q3 := (F_v.o.keep hSw).c 3 _ rfl; have q4 := (F_v.o.keep hSw).c 4 _ rfl; have q5 := (F_v.o.keep hSw).c 5 _ rfl; have q6 := (F_v.o.keep hSw).c 6 _ rfl; have q7 := (F_v.o.keep hSw).c 7 _ rfl; have q8 := (F_v.o.keep hSw).c 8 _ rfl; have q9 := (F_v.o.keep hSw).c 9 _ rfl; have q10 := (F_v.o.keep hSw).c 10 _ rfl; have e0 := ((HBW.o.trans (hSw.mono HBW.o.size)).cell (p := ⟨s, o + i * 2, none⟩) F_e.o.2).trans F_e.o.1.1; have e1 := ((HBW.o.trans (hSw.mono HBW.o.size)).cell (p := ⟨s, o + i * 2 + 1, none⟩) F_e.o.2).trans F_e.o.1.2; obtain ⟨-, b0, b1, b2, b3, b4, b5, b6, b7⟩ := HBC.o.keep (show Below w.heap.size w _ from HBW.o.trans (hSw.mono HBW.o.size))
      unfold bareOp; go_simp; try with_reducible rfl
    simp only [sY]
    refine tkP (i := 9) (some 36) (.move (.tmp 9)) 3 (fun _ => hS0) ?_
    simp only [sY]
    refine tkP (i := 10) (some 37) (.indexAddr 28 (.tmp 35) (.tmp 36)) 0 (fun _ => hS0) ?_
    simp only [sY]
    refine tkL (i := 11) (some 38) (.load 31 (.tmp 37)) 31 [14] (v := ?_) hS0 (fun w' hSw => ?_) ?_
    rotate_left
    · have g0 := (F_g.o.keep hSw).c 0 _ rfl; have g1 := (F_g.o.keep hSw).c 1 _ rfl; have g2 := (F_g.o.keep hSw).c 2 _ rfl; have q0 := (F_v.o.keep hSw).c 0 _ rfl; have q1 := (F_v.o.keep hSw).c 1 _ rfl; have q2 := (F_v.o.keep hSw).c 2 _ rfl; have q3 := (F_v.o.keep hSw).c 3 _ rfl; have q4 := (F_v.o.keep hSw).c 4 _ rfl; have q5 := (F_v.o.keep hSw).c 5 _ rfl; have q6 := (F_v.o.keep hSw).c 6 _ rfl; have q7 := (F_v.o.keep hSw).c 7 _ rfl; have q8 := (F_v.o.keep hSw).c 8 _ rfl; have q9 := (F_v.o.keep hSw).c 9 _ rfl; have q10 := (F_v.o.keep hSw).c 10 _ rfl; have e0 := ((HBW.o.trans (hSw.mono HBW.o.size)).cell (p := ⟨s, o + i * 2, none⟩) F_e.o.2).trans F_e.o.1.1; have e1 := ((HBW.o.trans (hSw.mono HBW.o.size)).cell (p := ⟨s, o + i * 2 + 1, none⟩) F_e.o.2).trans F_e.o.1.2; obtain ⟨-, b0, b1, b2, b3, b4, b5, b6, b7⟩ := HBC.o.keep (show Below w.heap.size w _ from HBW.o.trans (hSw.mono HBW.o.size))
      unfold bareOp; go_simp; try with_reducible rfl
    simp only [sY]
    refine tkP (i := 12) (some 39) (.move (.tmp 9)) 3 (fun _ => hS0) ?_
    simp only [sY]
    refine tkP (i := 13) (some 40) (.convert 3 5 (.tmp 39)) 5 (fun _ => hS0) ?_
    simp only [sY]
    refine onl (i := 14) (some 41) (.call { callee := .value (.func 84), args := #[.tmp 27, .tmp 28, .tmp 33, .tmp 38, .tmp 40], argTypes := #[24, 22, 75, 31, 5] }) 4 (fun K hK => ?_)
    unfold bareOp
    refine OpW.out (wp_of_enter (run_call _ _ _ _ 84 Tryz.func84 (vs := #[(.agg #[.int .u64 P, .int .u64 Q, .int .u64 G]), .int .u64 y, .agg #[.int .u64 x, .int .u64 x2], .agg #[.int .u64 zi.r0, .int .u64 zi.r1, .int .u64 zi.s0, .int .u64 zi.s1, .int .u64 zi.c0, .int .u64 zi.c1, .int .u64 zi.z0, .int .u64 zi.z1], .int .u8 (i : Int)]) (by simp only [List.map_toArray, List.map_cons, List.map_nil]; rfl) rfl (by kernel_rfl) (by kernel_rfl)) (rproved_any _ (HT.o.below (HBW.o.trans (hS0.mono HBW.o.size))) hP hQ hG hy HXN.o.1 HXN.o.2 HZI.o (by omega) (by omega) HV1.o) ?_)
    rintro e w8 ⟨rfl, hb8⟩
    refine ⟨_, rfl, ?_⟩
    replace hS0 := hS0.trans (hb8.mono hS0.size)
    clear hb8
    refine hK.o _ _ lt8 ?_
    clear hK K
    try simp only [sY]
    refine tkP (i := 15) (some 42) (.unOp .not 4 (.tmp 41)) 4 lt8 ?_
    simp only [sY]
    refine wpAnyB_done (by kernel_rfl) ?_ _
    replace F_g := Lh (F_g.o.keep hS0)
    replace F_v := Lh (F_v.o.keep hS0)
    replace HBW := Lh (HBW.o.trans (hS0.mono HBW.o.size))
    clear hS0
    cases v1 with
    | false =>
     have HN := Lh (show ¬ provB P Q G y (bs.getD i (0, 0)).1 (bs.getD i (0, 0)).2 (ps.getD i Bt.zero) (i : Int) from fun h => by have := HV1.o.2 (HPI.o.1 h); cases this)
     go_wp2_with fail
     go_ret
     exact ⟨by rw [boolP HV.o (fun h => HN.o (h.1 i hlt))]; rfl, HBW.o⟩
    | true =>
     have HPN := Lh (show ∀ j, j < i + 1 → provB P Q G y (bs.getD j (0, 0)).1 (bs.getD j (0, 0)).2 (ps.getD j Bt.zero) (j : Int) from fun j hj => by
      by_cases e : j < i
      · exact HPR.o j e
      · obtain rfl : j = i := by omega
        exact HPI.o.2 (HV1.o.1 rfl))
     go_wp2_with fail
     go_roundw
     case rel => exact ⟨i + 1, by omega, by go_num, HPN.o, F_g.o, F_v.o, HBW.o⟩
     case measure => simp [intOf] <;> omega
   case neg =>
    obtain rfl : i = n := by omega
    have hd : decide ((i : Int) < (i : Int)) = false := decide_eq_false (by omega)
    have HOK := Lh (okS_all HH.o (by rw [← HL1.o]; exact HPR.o))
    have v2 := F_v.o.c 2 _ rfl
    cases one with
    | false =>
     obtain ⟨⟨q0, q1, q2, q3, q4, q5, q6, q7, q8, q9, q10⟩, -⟩ := F_v.o.k11
     obtain ⟨e, he⟩ := Prop.bool (z = Bt.zero)
     have HE := Lh (show v = e by
      have h1 : v = true ↔ z = Bt.zero := HV.o.trans ⟨fun h => by rcases h.2 with ⟨h2, -⟩ | ⟨-, h2⟩; cases h2; exact h2, fun h => ⟨HPR.o, .inr ⟨rfl, h⟩⟩⟩
      rw [Bool.eq_iff_iff, h1, he])
     have heq := eq_bit2 z Bt.zero e he
     simp only [Bt.zero] at heq
     clear he
     go_wp2_with fail
     go_ret
     exact ⟨by rw [HE.o]; rfl, HBW.o⟩
    | true =>
     obtain ⟨ax, ay, hax⟩ : ∃ x y, allP P bs = (x, y) := ⟨_, _, rfl⟩
     have HNN := Lh (show ∀ p, p ∈ bs → 0 ≤ p.1 ∧ 0 ≤ p.2 from fun p hp => ⟨(U1.o p hp).1.1, (U1.o p hp).2.1⟩)
     have HAN := Lh (show 0 ≤ ax ∧ 0 ≤ ay by have := allP_nn hP bs HNN.o; rw [hax] at this; exact this)
     obtain ⟨v1, hv1⟩ := Prop.bool (provB P Q G y ax ay z 255)
     have HV1 := Lh hv1
     have HEB := Lh (show v = v1 by
      have h1 : v = true ↔ provB P Q G y ax ay z 255 := HV.o.trans ⟨fun h => by have h2 := (h.2.resolve_right (fun h3 => by cases h3.1)).2.2; rw [hax] at h2; exact h2, fun h => ⟨HPR.o, .inl ⟨rfl, HOK.o, by rw [hax]; exact h⟩⟩⟩
      rw [Bool.eq_iff_iff, h1, hv1])
     have HAX := Lh hax
     clear hax hv1
     go_wp2_with fail
     have hS0 : Below wr.heap.size wr wr.drew := (Below.refl _ _).drew
     refine wp_region_stage 8 (fun w' => Below wr.heap.size wr w') (by kernel_rfl) ?_
     refine tkL (i := 0) (some 50) (.load 24 (.tmp 4)) 24 [8] (v := ?_) hS0 (fun w' hSw => ?_) ?_
     rotate_left
     · have g0 := (F_g.o.keep hSw).c 0 _ rfl; have g1 := (F_g.o.keep hSw).c 1 _ rfl; have g2 := (F_g.o.keep hSw).c 2 _ rfl; have q0 := (F_v.o.keep hSw).c 0 _ rfl; have q1 := (F_v.o.keep hSw).c 1 _ rfl; have q2 := (F_v.o.keep hSw).c 2 _ rfl; have q3 := (F_v.o.keep hSw).c 3 _ rfl; have q4 := (F_v.o.keep hSw).c 4 _ rfl; have q5 := (F_v.o.keep hSw).c 5 _ rfl; have q6 := (F_v.o.keep hSw).c 6 _ rfl; have q7 := (F_v.o.keep hSw).c 7 _ rfl; have q8 := (F_v.o.keep hSw).c 8 _ rfl; have q9 := (F_v.o.keep hSw).c 9 _ rfl; have q10 := (F_v.o.keep hSw).c 10 _ rfl
       unfold bareOp; go_simp; try with_reducible rfl
     simp only [sY]
     refine tkP (i := 1) (some 51) (.move (.tmp 1)) 22 (fun _ => hS0) ?_
     simp only [sY]
     refine tkL (i := 2) (some 52) (.load 24 (.tmp 4)) 24 [5, 8] (v := ?_) hS0 (fun w' hSw => ?_) ?_
     rotate_left
     · have g0 := (F_g.o.keep hSw).c 0 _ rfl; have g1 := (F_g.o.keep hSw).c 1 _ rfl; have g2 := (F_g.o.keep hSw).c 2 _ rfl; have q0 := (F_v.o.keep hSw).c 0 _ rfl; have q1 := (F_v.o.keep hSw).c 1 _ rfl; have q2 := (F_v.o.keep hSw).c 2 _ rfl; have q3 := (F_v.o.keep hSw).c 3 _ rfl; have q4 := (F_v.o.keep hSw).c 4 _ rfl; have q5 := (F_v.o.keep hSw).c 5 _ rfl; have q6 := (F_v.o.keep hSw).c 6 _ rfl; have q7 := (F_v.o.keep hSw).c 7 _ rfl; have q8 := (F_v.o.keep hSw).c 8 _ rfl; have q9 := (F_v.o.keep hSw).c 9 _ rfl; have q10 := (F_v.o.keep hSw).c 10 _ rfl
       unfold bareOp; go_simp; try with_reducible rfl
     simp only [sY]
     refine tkP (i := 3) (some 53) (.fieldAddr 33 (.tmp 7) 0) 0 (fun _ => hS0) ?_
     simp only [sY]
     refine tkL (i := 4) (some 54) (.load 27 (.tmp 53)) 27 [5, 8] (v := ?_) hS0 (fun w' hSw => ?_) ?_
     rotate_left
     · have g0 := (F_g.o.keep hSw).c 0 _ rfl; have g1 := (F_g.o.keep hSw).c 1 _ rfl; have g2 := (F_g.o.keep hSw).c 2 _ rfl; have q0 := (F_v.o.keep hSw).c 0 _ rfl; have q1 := (F_v.o.keep hSw).c 1 _ rfl; have q2 := (F_v.o.keep hSw).c 2 _ rfl; have q3 := (F_v.o.keep hSw).c 3 _ rfl; have q4 := (F_v.o.keep hSw).c 4 _ rfl; have q5 := (F_v.o.keep hSw).c 5 _ rfl; have q6 := (F_v.o.keep hSw).c 6 _ rfl; have q7 := (F_v.o.keep hSw).c 7 _ rfl; have q8 := (F_v.o.keep hSw).c 8 _ rfl; have q9 := (F_v.o.keep hSw).c 9 _ rfl; have q10 := (F_v.o.keep hSw).c 10 _ rfl
       unfold bareOp; go_simp; try with_reducible rfl
     simp only [sY]
     refine tkP (i := 6) (some 56) (.fieldAddr 33 (.tmp 7) 3) 0 (fun _ => hS0) ?_
     simp only [sY]
     refine tkL (i := 7) (some 57) (.load 31 (.tmp 56)) 31 [8] (v := ?_) hS0 (fun w' hSw => ?_) ?_
     rotate_left
     · have g0 := (F_g.o.keep hSw).c 0 _ rfl; have g1 := (F_g.o.keep hSw).c 1 _ rfl; have g2 := (F_g.o.keep hSw).c 2 _ rfl; have q0 := (F_v.o.keep hSw).c 0 _ rfl; have q1 := (F_v.o.keep hSw).c 1 _ rfl; have q2 := (F_v.o.keep hSw).c 2 _ rfl; have q3 := (F_v.o.keep hSw).c 3 _ rfl; have q4 := (F_v.o.keep hSw).c 4 _ rfl; have q5 := (F_v.o.keep hSw).c 5 _ rfl; have q6 := (F_v.o.keep hSw).c 6 _ rfl; have q7 := (F_v.o.keep hSw).c 7 _ rfl; have q8 := (F_v.o.keep hSw).c 8 _ rfl; have q9 := (F_v.o.keep hSw).c 9 _ rfl; have q10 := (F_v.o.keep hSw).c 10 _ rfl
       unfold bareOp; go_simp; try with_reducible rfl
     simp only [sY]
     refine onl (i := 5) (some 55) (.call { callee := .value (.func 85), args := #[.tmp 52, .tmp 54], argTypes := #[24, 27] }) 75 (fun K hK => ?_)
     unfold bareOp
     refine OpW.out (wp_of_enter (run_call _ _ _ _ 85 Tryz.func85 (vs := #[(.agg #[.int .u64 P, .int .u64 Q, .int .u64 G]), .slice (some ⟨s, o, none⟩) i c]) (by simp only [List.map_toArray, List.map_cons, List.map_nil]; rfl) rfl (by kernel_rfl) (by kernel_rfl)) (rall_any _ HH.o (H1.o.keep (HBW.o.trans (hS0.mono HBW.o.size))) HNN.o HOK.o (by omega) HAX.o) ?_)
     rintro e w8 ⟨rfl, hb8⟩
     refine ⟨_, rfl, ?_⟩
     replace hS0 := hS0.trans (hb8.mono hS0.size)
     clear hb8
     refine hK.o _ _ (fun _ => hS0) ?_
     clear hK K
     try simp only [sY]
     refine onl (i := 8) (some 58) (.call { callee := .value (.func 84), args := #[.tmp 50, .tmp 51, .tmp 55, .tmp 57, .const (.int .u8 255)], argTypes := #[24, 22, 75, 31, 5] }) 4 (fun K hK => ?_)
     unfold bareOp
     refine OpW.out (wp_of_enter (run_call _ _ _ _ 84 Tryz.func84 (vs := #[(.agg #[.int .u64 P, .int .u64 Q, .int .u64 G]), .int .u64 y, .agg #[.int .u64 ax, .int .u64 ay], .agg #[.int .u64 z.r0, .int .u64 z.r1, .int .u64 z.s0, .int .u64 z.s1, .int .u64 z.c0, .int .u64 z.c1, .int .u64 z.z0, .int .u64 z.z1], .int .u8 255]) (by simp only [List.map_toArray, List.map_cons, List.map_nil]; rfl) rfl (by kernel_rfl) (by kernel_rfl)) (rproved_any _ (HT.o.below (HBW.o.trans (hS0.mono HBW.o.size))) hP hQ hG hy HAN.o.1 HAN.o.2 UZ.o (by decide) (by decide) HV1.o) ?_)
     rintro e w9 ⟨rfl, hb9⟩
     refine ⟨_, rfl, ?_⟩
     replace hS0 := hS0.trans (hb9.mono hS0.size)
     clear hb9
     refine hK.o _ _ lt8 ?_
     clear hK K
     try simp only [sY]
     refine tkP (i := 9) (some 8) (.assign (.tmp 58)) 4 lt8 ?_
     simp only [sY]
     refine wpAnyB_done (by kernel_rfl) ?_ _
     go_wp2_with fail
     go_ret
     exact ⟨by rw [HEB.o]; rfl, HBW.o.trans (hS0.mono HBW.o.size)⟩
set_option maxHeartbeats 8000000 in
theorem rMay_any {P Q G y : Int} {n : Nat} {V : Vt} {v : Bool} (w : World) (hT : Tabs w) (hH : Has P Q G) (hy : 0 ≤ y) (hn : n ≤ 10) (hn1 : 1 ≤ n) (hV : VtIn w V) (hv : v = true ↔ validP P Q G y n V) :
    Calls Tryz.prog 42 #[.agg #[.int .u64 P, .int .u64 Q, .int .u64 G], .int .u64 y, .int .i64 (n : Int), V.v] w fun e w' => e = .returned (.bool v) ∧ Below w.heap.size w w' := by
  by_cases h1 : V.n = n
  case neg =>
   have HVF := Lh (show v = false from boolP hv (fun h => h1 h.1))
   have hne : ¬ ((V.n : Int) = (n : Int)) := by omega
   have F_v := Lh (VBox.at (w.alloc (.cells #[.int .u64 P, .int .u64 Q, .int .u64 G] 24)) V 33 (w.heap.size + 1) (by simp))
   have HBW := Lh (show Below w.heap.size w ((w.alloc (.cells #[.int .u64 P, .int .u64 Q, .int .u64 G] 24)).alloc (.cells V.ca 33)) from ((Below.refl _ _).alloc (Nat.le_refl _) _).alloc (by simp) _)
   clear hT hH hV hv h1
   obtain ⟨-, v0, v1, -⟩ := id F_v.o
   unfold Vt.v
   go_enter Tryz.func42, Tryz.ntmps42
   go_wp2_with fail
   go_ret
   exact ⟨by rw [HVF.o]; rfl, HBW.o⟩
  case pos =>
  by_cases h2 : V.m = n
  case neg =>
   have HVF := Lh (show v = false from boolP hv (fun h => h2 h.2.1))
   have hne : ¬ ((V.m : Int) = (n : Int)) := by omega
   have F_v := Lh (VBox.at (w.alloc (.cells #[.int .u64 P, .int .u64 Q, .int .u64 G] 24)) V 33 (w.heap.size + 1) (by simp))
   have HBW := Lh (show Below w.heap.size w ((w.alloc (.cells #[.int .u64 P, .int .u64 Q, .int .u64 G] 24)).alloc (.cells V.ca 33)) from ((Below.refl _ _).alloc (Nat.le_refl _) _).alloc (by simp) _)
   subst h1
   clear hT hH hV hv h2
   obtain ⟨-, v0, v1, -⟩ := id F_v.o
   unfold Vt.v
   go_enter Tryz.func42, Tryz.ntmps42
   go_wp2_with fail
   go_ret
   exact ⟨by rw [HVF.o]; rfl, HBW.o⟩
  case pos =>
  obtain ⟨g1, g2, g3, g4, g5, g6, g7⟩ := hV
  obtain ⟨a, k, c, bs, b, m, d, ps, one, z⟩ := V
  simp only at *
  subst h1 h2
  exact rmay_aux w hT hH hy hn hn1 g1 g2 g4 g5 g7 (hv.trans ⟨fun h => ⟨h.2.2.1, h.2.2.2⟩, fun h => ⟨rfl, rfl, h.1, h.2⟩⟩)
set_option maxHeartbeats 8000000 in
theorem rCheck36_any {P Q G y n e' : Int} {V : Vt} (w : World) (hT : Tabs w) (hP : 0 ≤ P) (hQ : 0 ≤ Q) (hG : 0 ≤ G) (hy : 0 ≤ y) (hV : VtIn w V) (hc : checkP P Q G y n V e') :
    Calls Tryz.prog 13 #[.agg #[.int .u64 P, .int .u64 Q, .int .u64 G], .int .u64 y, .int .i64 n, V.v] w fun e w' => e = .returned (.int .i64 e') ∧ Below w.heap.size w w' := by
  have HT := Lh hT
  have HV := Lh hV
  have HC := Lh hc
  have F_g := Lh (show Cl ((w.alloc (.cells #[.int .u64 P, .int .u64 Q, .int .u64 G] 24)).alloc (.cells V.ca 33)) w.heap.size [.int .u64 P, .int .u64 Q, .int .u64 G] from (Cl.at w [.int .u64 P, .int .u64 Q, .int .u64 G] _ w.heap.size rfl).alloc _)
  have F_v := Lh (VBox.at (w.alloc (.cells #[.int .u64 P, .int .u64 Q, .int .u64 G] 24)) V 33 (w.heap.size + 1) (by simp))
  have HBW := Lh (show Below w.heap.size w ((w.alloc (.cells #[.int .u64 P, .int .u64 Q, .int .u64 G] 24)).alloc (.cells V.ca 33)) from ((Below.refl _ _).alloc (Nat.le_refl _) _).alloc (by simp) _)
  have g0 := F_g.o.c 0 _ rfl
  have g1 := F_g.o.c 1 _ rfl
  have g2 := F_g.o.c 2 _ rfl
  clear hT hV hc
  unfold Vt.v
  go_enter Tryz.func13, Tryz.ntmps13
  go_wp2_with fail
  clear g0 g1 g2
  refine (rAsked36_any _ hP hQ hG hy).mono ?_
  rintro e w1 ⟨rfl, hb1⟩
  replace F_g := Lh (F_g.o.keep hb1)
  replace F_v := Lh (F_v.o.keep hb1)
  replace HBW := Lh (HBW.o.trans (hb1.mono HBW.o.size))
  clear hb1
  obtain ⟨k, hk⟩ : ∃ k, chkB P Q G y n = k := ⟨_, rfl⟩
  have HK := Lh hk
  have hC := HC.o
  unfold checkP at hC
  rw [hk] at hC ⊢
  clear hk HC
  rcases hC with ⟨h1, rfl⟩ | ⟨rfl, h1⟩
  · go_wp2_with fail
    go_ret
    exact ⟨rfl, HBW.o⟩
  · obtain ⟨hH, -, hn1, hn2⟩ := chkB_ok HK.o
    have HH := Lh hH
    clear hH
    obtain ⟨j, rfl⟩ : ∃ j : Nat, n = (j : Int) := ⟨n.toNat, by omega⟩
    simp only [Int.toNat_natCast] at h1
    have g0 := F_g.o.c 0 _ rfl
    have g1 := F_g.o.c 1 _ rfl
    have g2 := F_g.o.c 2 _ rfl
    obtain ⟨-, v0, v1, v2, v3, v4, v5, v6, v7, v8, v9, v10, vf⟩ := id F_v.o
    go_wp2_with fail
    clear g0 g1 g2 v0 v1 v2 v3 v4 v5 v6 v7 v8 v9 v10 vf
    obtain ⟨b, hb⟩ := Prop.bool (validP P Q G y j V)
    refine (rMay_any (V := V) _ (HT.o.below HBW.o) HH.o hy (by omega) (by omega) (HV.o.keep HBW.o) hb).mono ?_
    rintro e w2 ⟨rfl, hb2⟩
    replace HBW := Lh (HBW.o.trans (hb2.mono HBW.o.size))
    clear hb2
    rcases h1 with ⟨h1, rfl⟩ | ⟨h1, rfl⟩
    · obtain rfl : b = true := hb.2 h1
      clear hb
      go_wp2_with fail
      go_ret
      exact ⟨rfl, HBW.o⟩
    · obtain rfl : b = false := boolP hb h1
      clear hb
      go_wp2_with fail
      go_ret
      exact ⟨rfl, HBW.o⟩
end Go.Proofs.YtlbldpkgnonbpaaGreatDoor
