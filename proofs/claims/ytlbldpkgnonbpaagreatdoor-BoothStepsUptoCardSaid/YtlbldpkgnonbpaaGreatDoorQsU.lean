/- The reference's sealed. -/
import Derived.Test.YtlbldpkgnonbpaaGreatDoorQsT
import Derived.Test.YtlbldpkgnonbpaaGreatDoorQsP
import Derived.Test.YtlbldpkgnonbpaaGreatDoorQsR
import Derived.Test.YtlbldpkgnonbpaaGreatDoorQsS
set_option linter.unusedSimpArgs false
set_option linter.unusedVariables false
set_option maxRecDepth 100000
namespace Go.Proofs.YtlbldpkgnonbpaaGreatDoor
open Go Go.RowKit Num Sha
def HiV (n : Nat) (V : Vt) (R : Rv) : Prop := (∀ s o, V.a = some ⟨s, o, none⟩ → n ≤ s) ∧ (∀ s o, V.b = some ⟨s, o, none⟩ → n ≤ s) ∧ (∀ s o, R.a = some ⟨s, o, none⟩ → n ≤ s) ∧ (∀ s o, R.b = some ⟨s, o, none⟩ → n ≤ s)
theorem ShS.blocks {w w' : World} {a : Option Addr} {n : Nat} {xs : List (Int × Int)} (h : ShS w a n xs) (hb : ∀ s o, a = some ⟨s, o, none⟩ → s < w.heap.size → w'.heap[s]? = w.heap[s]? ∧ s < w'.heap.size) : ShS w' a n xs := by
 rcases h with h | ⟨s, o, rfl, h1, h2, h3⟩
 · exact .inl h
 · exact .inr ⟨s, o, rfl, h1, (hb s o rfl h2).2, fun i hi => ⟨(World.cell?_of_block (w := w) (a := ⟨s, o + i * 2, none⟩) (hb s o rfl h2).1).trans (h3 i hi).1, (World.cell?_of_block (w := w) (a := ⟨s, o + i * 2 + 1, none⟩) (hb s o rfl h2).1).trans (h3 i hi).2⟩⟩
theorem ShB.blocks {w w' : World} {a : Option Addr} {n : Nat} {xs : List Bt} (h : ShB w a n xs) (hb : ∀ s o, a = some ⟨s, o, none⟩ → s < w.heap.size → w'.heap[s]? = w.heap[s]? ∧ s < w'.heap.size) : ShB w' a n xs := by
 rcases h with h | ⟨s, o, rfl, h1, h2, h3⟩
 · exact .inl h
 · exact .inr ⟨s, o, rfl, h1, (hb s o rfl h2).2, fun i hi k u hu => (World.cell?_of_block (w := w) (a := ⟨s, o + i * 8 + k, none⟩) (hb s o rfl h2).1).trans (h3 i hi k u hu)⟩
theorem ShI.blocks2 {q : IntKind} {w w' : World} {a : Option Addr} {n : Nat} {xs : List Int} (h : ShI q w a n xs) (hb : ∀ s o, a = some ⟨s, o, none⟩ → s < w.heap.size → w'.heap[s]? = w.heap[s]? ∧ s < w'.heap.size) : ShI q w' a n xs := by
 rcases h with h | ⟨s, o, rfl, h1, h2, h3⟩
 · exact .inl h
 · exact .inr ⟨s, o, rfl, h1, (hb s o rfl h2).2, fun i hi => (World.cell?_of_block (w := w) (a := ⟨s, o + i, none⟩) (hb s o rfl h2).1).trans (h3 i hi)⟩
theorem HiV.keep {n : Nat} {w w' : World} {V : Vt} {R : Rv} (h : HiV n V R) (hV : VtIn w V) (hR : RvIn w R) (hm : ∀ j, n ≤ j → j < w.heap.size → w'.heap[j]? = w.heap[j]?) (hz : w.heap.size ≤ w'.heap.size) : VtIn w' V ∧ RvIn w' R :=
 ⟨⟨hV.h1.blocks fun s o e hl => ⟨hm s (h.1 s o e) hl, Nat.lt_of_lt_of_le hl hz⟩, hV.u1, hV.k1, hV.h2.blocks fun s o e hl => ⟨hm s (h.2.1 s o e) hl, Nat.lt_of_lt_of_le hl hz⟩, hV.u2, hV.k2, hV.uz⟩,
  ⟨hR.h1.blocks2 fun s o e hl => ⟨hm s (h.2.2.1 s o e) hl, Nat.lt_of_lt_of_le hl hz⟩, hR.u1, hR.k1, hR.h2.blocks2 fun s o e hl => ⟨hm s (h.2.2.2 s o e) hl, Nat.lt_of_lt_of_le hl hz⟩, hR.u2, hR.k2⟩⟩
def OwnI (w : World) (n₀ : Nat) (v : Value) (xs : List Int) : Prop := w.ownsRow n₀ 3 1 v xs.length (xs.map (Value.int .i64))
section
variable {w : World} {ops : Array Oper} {rest : List Oper} {o : Oper} {act : Act} {Q : Exit → Act → World → Prop}
end
open Go Go.RowKit Num Sha
open Go Go.RowKit Num Sha
theorem BCells.keep {w w' : World} {s p : Nat} {z : Bt} (h : BCells w s p z) (hb : Below w.heap.size w w') : BCells w' s p z :=
 ⟨Nat.lt_of_lt_of_le h.lt hb.size, (hb.cell (p := ⟨s, p, none⟩) h.lt).trans h.c0, (hb.cell (p := ⟨s, p + 1, none⟩) h.lt).trans h.c1, (hb.cell (p := ⟨s, p + 2, none⟩) h.lt).trans h.c2, (hb.cell (p := ⟨s, p + 3, none⟩) h.lt).trans h.c3, (hb.cell (p := ⟨s, p + 4, none⟩) h.lt).trans h.c4, (hb.cell (p := ⟨s, p + 5, none⟩) h.lt).trans h.c5, (hb.cell (p := ⟨s, p + 6, none⟩) h.lt).trans h.c6, (hb.cell (p := ⟨s, p + 7, none⟩) h.lt).trans h.c7⟩
theorem provB_lt {P Q G y a b x : Int} {z : Bt} (hH : Has P Q G) (h : provB P Q G y a b z x) : a < P ∧ b < P := by
 have h1 := h.1
 unfold askS at h1
 rw [if_pos hH] at h1
 split at h1
 · next h2 =>
   simp only [okAll, List.all_cons, List.all_nil, Bool.and_true, Bool.and_eq_true, decide_eq_true_eq] at h2
   exact ⟨h2.2.2.1, h2.2.2.2.1⟩
 · cases h1
theorem okS_all {P Q G y : Int} {bs : List (Int × Int)} {ps : List Bt} (hH : Has P Q G) (h : ∀ i, i < bs.length → provB P Q G y (bs.getD i (0, 0)).1 (bs.getD i (0, 0)).2 (ps.getD i Bt.zero) (i : Int)) : okS P bs = true := by
 simp only [okS, List.all_eq_true, Bool.and_eq_true, decide_eq_true_eq]
 intro q hq
 obtain ⟨i, hi, rfl⟩ := List.getElem_of_mem hq
 have := provB_lt hH (h i hi)
 rw [List.getD_eq_getElem?_getD, List.getElem?_eq_getElem hi] at this
 exact this
set_option maxHeartbeats 16000000 in
theorem rmay_aux {P Q G y : Int} {a b : Option Addr} {n c d : Nat} {bs : List (Int × Int)} {ps : List Bt} {one : Bool} {z : Bt} {v : Bool} (w : World) (hT : Tabs w) (hH : Has P Q G) (hy : 0 ≤ y) (hn : n ≤ 10) (hn1 : 1 ≤ n)
 (h1 : ShS w a n bs) (u1 : ∀ q, q ∈ bs → U64 q.1 ∧ U64 q.2) (h2 : ShB w b n ps) (u2 : ∀ q, q ∈ ps → q.u) (uz : z.u)
 (hv : v = true ↔ (∀ i, i < n → provB P Q G y (bs.getD i (0, 0)).1 (bs.getD i (0, 0)).2 (ps.getD i Bt.zero) (i : Int)) ∧ ((one = true ∧ okS P bs = true ∧ provB P Q G y (allP P bs).1 (allP P bs).2 z 255) ∨ (one = false ∧ z = Bt.zero))) :
 Calls Tryz.prog 42 #[(.agg #[υ P, υ Q, υ G]), υ y, .int .i64 (n : Int), .agg #[.slice a n c, .slice b n d, .bool one, υ z.r0, υ z.r1, υ z.s0, υ z.s1, υ z.c0, υ z.c1, υ z.z0, υ z.z1]] w fun e w' => e = .returned (.bool v) ∧ Below w.heap.size w w' := by
 have hP : 0 ≤ P := by obtain ⟨p5, p3, hQ, pq, g2, gP⟩ := id hH; omega
 have hG : 0 ≤ G := by obtain ⟨p5, p3, hQ, pq, g2, gP⟩ := id hH; omega
 have hQ : 0 ≤ Q := by obtain ⟨p5, p3, hQ, pq, g2, gP⟩ := id hH; omega
 obtain ⟨s, o, hsa, -⟩ := h1.at 0 (by omega)
 obtain ⟨s', o', -, hsb, -⟩ := h2.at 0 (by omega)
 subst hsa hsb
 have HH := Lh hH
 have HT := Lh hT
 have H1 := Lh h1
 have H2 := Lh h2
 have HL1 := Lh h1.len
 have U1 := Lh u1
 have U2 := Lh u2
 have UZ := Lh uz
 have HV := Lh hv
 clear hT h1 h2 u1 u2 uz hv hH
 obtain ⟨F_g, F_v, HBW⟩ := bx2 w [υ P, υ Q, υ G] 24 [.slice (some ⟨s, o, none⟩) n c, .slice (some ⟨s', o', none⟩) n d, .bool one, υ z.r0, υ z.r1, υ z.s0, υ z.s1, υ z.c0, υ z.c1, υ z.z0, υ z.z1] 33
 go_enter Tryz.func42, Tryz.ntmps42
 obtain ⟨⟨qv0, qv1, qv2, qv3, qv4, qv5, qv6, qv7, qv8, qv9, qva⟩, -⟩ := F_v.o.k11
 go_wp2_with fail
 clear qv0 qv1 qv2 qv3 qv4 qv5 qv6 qv7 qv8 qv9 qva
 go_loopw [9] (fun c9 wr => ∃ i : Nat, i ≤ n ∧ c9 = .int .i64 i ∧ Hid (∀ j, j < i → provB P Q G y (bs.getD j (0, 0)).1 (bs.getD j (0, 0)).2 (ps.getD j Bt.zero) (j : Int)) ∧ Hid (Cl wr w.heap.size [υ P, υ Q, υ G]) ∧ Hid (Cl wr (w.heap.size + 1) [.slice (some ⟨s, o, none⟩) n c, .slice (some ⟨s', o', none⟩) n d, .bool one, υ z.r0, υ z.r1, υ z.s0, υ z.s1, υ z.c0, υ z.c1, υ z.z0, υ z.z1]) ∧ Hid (Below w.heap.size w wr)) (fun c9 _ => n - (intOf c9).toNat)
 case atStart => exact ⟨0, by omega, rfl, Lh (fun j hj => by omega), F_g.o, F_v.o, HBW.o⟩
 case round =>
  clear F_g F_v HBW
  obtain ⟨i, hi, rfl, HPR, F_g, F_v, HBW⟩ := hrel
  by_cases hlt : i < n
  case pos =>
   have hd : decide ((i : Int) < (n : Int)) = true := decide_eq_true (by omega)
   have hi0 : (0 : Int) ≤ (i : Int) := by omega
   have hi2 : (i : Int) < (n : Int) := by omega
   have hwi : IntKind.i64.wrap ((i : Int) + 1) = (i : Int) + 1 := IntWalk.i64_in _ (by omega)
   have hw8 : IntKind.u8.wrap (i : Int) = (i : Int) := IntWalk.u8_in _ (by omega)
   have cS : Tryz.prog.cellsOf 75 = 2 := by kernel_rfl
   have cB : Tryz.prog.cellsOf 31 = 8 := by kernel_rfl
   obtain ⟨s1, o1, hsa, hsl, e0, e1⟩ := H1.o.at i hlt
   injection hsa with hsa; injection hsa with ea eb _; subst ea eb
   obtain ⟨x, x2, hxy⟩ : ∃ x y, bs.getD i (0, 0) = (x, y) := ⟨_, _, rfl⟩
   rw [hxy] at e0 e1
   simp only at e0 e1
   have hxm : (x, x2) ∈ bs := by
    have hl : i < bs.length := by rw [← H1.o.len]; exact hlt
    rw [← hxy, List.getD_eq_getElem?_getD, List.getElem?_eq_getElem hl]; exact List.getElem_mem hl
   have HXN := Lh (show 0 ≤ x ∧ 0 ≤ x2 from ⟨(U1.o _ hxm).1.1, (U1.o _ hxm).2.1⟩)
   obtain ⟨s2, o2, zi, hsb, hz_, hbc⟩ := H2.o.at i hlt
   injection hsb with hsb; injection hsb with ea eb _; subst ea eb
   have HZI := Lh (show zi.u from U2.o zi (List.mem_of_getElem? hz_))
   have HBC := Lh hbc
   have HPI := Lh (show provB P Q G y (bs.getD i (0, 0)).1 (bs.getD i (0, 0)).2 (ps.getD i Bt.zero) (i : Int) ↔ provB P Q G y x x2 zi (i : Int) by rw [hxy, List.getD_eq_getElem?_getD, hz_]; rfl)
   have F_e := Lh (show (w.cell? ⟨s, o + i * 2, none⟩ = some (υ x) ∧ w.cell? ⟨s, o + i * 2 + 1, none⟩ = some (υ x2)) ∧ s < w.heap.size from ⟨⟨e0, e1⟩, hsl⟩)
   clear hxy hxm hsl hz_ hbc e0 e1
   obtain ⟨v1, hv1⟩ := Prop.bool (provB P Q G y x x2 zi (i : Int))
   have HV1 := Lh hv1
   clear hv1
   go_wp2_with fail
   have hS0 : Below wr.heap.size wr wr.drew := (Below.refl _ _).drew
   refine wp_region_stage 14 (fun w' => Below wr.heap.size wr w') (by kernel_rfl) ?_
   refine tkL (i := 0) (some 27) (.load 24 (.tmp 4)) 24 [14] (v := ?_) hS0 (fun w' hSw => ?_) ?_
   rotate_left
   · have g0 := (F_g.o.keep hSw).c 0 _ rfl; have g1 := (F_g.o.keep hSw).c 1 _ rfl; have g2 := (F_g.o.keep hSw).c 2 _ rfl
     unfold bareOp; go_simp; try with_reducible rfl
   simp only [sY]
   refine tkP (i := 1) (some 28) (.move (.tmp 1)) 22 (fun _ => hS0) ?_
   simp only [sY]
   refine tkP (i := 2) (some 29) (.fieldAddr 33 (.tmp 7) 0) 0 (fun _ => hS0) ?_
   simp only [sY]
   refine tkL (i := 3) (some 30) (.load 27 (.tmp 29)) 27 [5, 6, 14] (v := ?_) hS0 (fun w' hSw => ?_) ?_
   rotate_left
   · have g0 := (F_g.o.keep hSw).c 0 _ rfl; have g1 := (F_g.o.keep hSw).c 1 _ rfl; have g2 := (F_g.o.keep hSw).c 2 _ rfl; have q0 := (F_v.o.keep hSw).c 0 _ rfl; have q1 := (F_v.o.keep hSw).c 1 _ rfl; have q2 := (F_v.o.keep hSw).c 2 _ rfl; have q3 := (F_v.o.keep hSw).c 3 _ rfl; have q4 := (F_v.o.keep hSw).c 4 _ rfl; have q5 := (F_v.o.keep hSw).c 5 _ rfl; have q6 := (F_v.o.keep hSw).c 6 _ rfl; have q7 := (F_v.o.keep hSw).c 7 _ rfl; have q8 := (F_v.o.keep hSw).c 8 _ rfl; have q9 := (F_v.o.keep hSw).c 9 _ rfl; have q10 := (F_v.o.keep hSw).c 10 _ rfl; have e0 := ((HBW.o.trans (hSw.mono HBW.o.size)).cell (p := ⟨s, o + i * 2, none⟩) F_e.o.2).trans F_e.o.1.1; have e1 := ((HBW.o.trans (hSw.mono HBW.o.size)).cell (p := ⟨s, o + i * 2 + 1, none⟩) F_e.o.2).trans F_e.o.1.2; obtain ⟨-, b0, b1, b2, b3, b4, b5, b6, b7⟩ := HBC.o.keep (show Below w.heap.size w _ from HBW.o.trans (hSw.mono HBW.o.size))
     unfold bareOp; go_simp; try with_reducible rfl
   simp only [sY]
   refine tkP (i := 4) (some 31) (.move (.tmp 9)) 3 (fun _ => hS0) ?_
   simp only [sY]
   refine tkP (i := 5) (some 32) (.indexAddr 27 (.tmp 30) (.tmp 31)) 0 (fun _ => hS0) ?_
   simp only [sY]
   refine tkL (i := 6) (some 33) (.load 75 (.tmp 32)) 75 [14] (v := ?_) hS0 (fun w' hSw => ?_) ?_
   rotate_left
   · have g0 := (F_g.o.keep hSw).c 0 _ rfl; have g1 := (F_g.o.keep hSw).c 1 _ rfl; have g2 := (F_g.o.keep hSw).c 2 _ rfl; have q0 := (F_v.o.keep hSw).c 0 _ rfl; have q1 := (F_v.o.keep hSw).c 1 _ rfl; have q2 := (F_v.o.keep hSw).c 2 _ rfl; have q3 := (F_v.o.keep hSw).c 3 _ rfl; have q4 := (F_v.o.keep hSw).c 4 _ rfl; have q5 := (F_v.o.keep hSw).c 5 _ rfl; have q6 := (F_v.o.keep hSw).c 6 _ rfl; have q7 := (F_v.o.keep hSw).c 7 _ rfl; have q8 := (F_v.o.keep hSw).c 8 _ rfl; have q9 := (F_v.o.keep hSw).c 9 _ rfl; have q10 := (F_v.o.keep hSw).c 10 _ rfl; have e0 := ((HBW.o.trans (hSw.mono HBW.o.size)).cell (p := ⟨s, o + i * 2, none⟩) F_e.o.2).trans F_e.o.1.1; have e1 := ((HBW.o.trans (hSw.mono HBW.o.size)).cell (p := ⟨s, o + i * 2 + 1, none⟩) F_e.o.2).trans F_e.o.1.2; obtain ⟨-, b0, b1, b2, b3, b4, b5, b6, b7⟩ := HBC.o.keep (show Below w.heap.size w _ from HBW.o.trans (hSw.mono HBW.o.size))
     unfold bareOp; go_simp; try with_reducible rfl
   simp only [sY]
   refine tkP (i := 7) (some 34) (.fieldAddr 33 (.tmp 7) 1) 0 (fun _ => hS0) ?_
   simp only [sY]
   refine tkL (i := 8) (some 35) (.load 28 (.tmp 34)) 28 [10, 11, 14] (v := ?_) hS0 (fun w' hSw => ?_) ?_
   rotate_left
   · have g0 := (F_g.o.keep hSw).c 0 _ rfl; have g1 := (F_g.o.keep hSw).c 1 _ rfl; have g2 := (F_g.o.keep hSw).c 2 _ rfl; have q0 := (F_v.o.keep hSw).c 0 _ rfl; have q1 := (F_v.o.keep hSw).c 1 _ rfl; have q2 := (F_v.o.keep hSw).c 2 _ rfl; have q3 := (F_v.o.keep hSw).c 3 _ rfl; have q4 := (F_v.o.keep hSw).c 4 _ rfl; have q5 := (F_v.o.keep hSw).c 5 _ rfl; have q6 := (F_v.o.keep hSw).c 6 _ rfl; have q7 := (F_v.o.keep hSw).c 7 _ rfl; have q8 := (F_v.o.keep hSw).c 8 _ rfl; have q9 := (F_v.o.keep hSw).c 9 _ rfl; have q10 := (F_v.o.keep hSw).c 10 _ rfl; have e0 := ((HBW.o.trans (hSw.mono HBW.o.size)).cell (p := ⟨s, o + i * 2, none⟩) F_e.o.2).trans F_e.o.1.1; have e1 := ((HBW.o.trans (hSw.mono HBW.o.size)).cell (p := ⟨s, o + i * 2 + 1, none⟩) F_e.o.2).trans F_e.o.1.2; obtain ⟨-, b0, b1, b2, b3, b4, b5, b6, b7⟩ := HBC.o.keep (show Below w.heap.size w _ from HBW.o.trans (hSw.mono HBW.o.size))
     unfold bareOp; go_simp; try with_reducible rfl
   simp only [sY]
   refine tkP (i := 9) (some 36) (.move (.tmp 9)) 3 (fun _ => hS0) ?_
   simp only [sY]
   refine tkP (i := 10) (some 37) (.indexAddr 28 (.tmp 35) (.tmp 36)) 0 (fun _ => hS0) ?_
   simp only [sY]
   refine tkL (i := 11) (some 38) (.load 31 (.tmp 37)) 31 [14] (v := ?_) hS0 (fun w' hSw => ?_) ?_
   rotate_left
   · have g0 := (F_g.o.keep hSw).c 0 _ rfl; have g1 := (F_g.o.keep hSw).c 1 _ rfl; have g2 := (F_g.o.keep hSw).c 2 _ rfl; have q0 := (F_v.o.keep hSw).c 0 _ rfl; have q1 := (F_v.o.keep hSw).c 1 _ rfl; have q2 := (F_v.o.keep hSw).c 2 _ rfl; have q3 := (F_v.o.keep hSw).c 3 _ rfl; have q4 := (F_v.o.keep hSw).c 4 _ rfl; have q5 := (F_v.o.keep hSw).c 5 _ rfl; have q6 := (F_v.o.keep hSw).c 6 _ rfl; have q7 := (F_v.o.keep hSw).c 7 _ rfl; have q8 := (F_v.o.keep hSw).c 8 _ rfl; have q9 := (F_v.o.keep hSw).c 9 _ rfl; have q10 := (F_v.o.keep hSw).c 10 _ rfl; have e0 := ((HBW.o.trans (hSw.mono HBW.o.size)).cell (p := ⟨s, o + i * 2, none⟩) F_e.o.2).trans F_e.o.1.1; have e1 := ((HBW.o.trans (hSw.mono HBW.o.size)).cell (p := ⟨s, o + i * 2 + 1, none⟩) F_e.o.2).trans F_e.o.1.2; obtain ⟨-, b0, b1, b2, b3, b4, b5, b6, b7⟩ := HBC.o.keep (show Below w.heap.size w _ from HBW.o.trans (hSw.mono HBW.o.size))
     unfold bareOp; go_simp; try with_reducible rfl
   simp only [sY]
   refine tkP (i := 12) (some 39) (.move (.tmp 9)) 3 (fun _ => hS0) ?_
   simp only [sY]
   refine tkP (i := 13) (some 40) (.convert 3 5 (.tmp 39)) 5 (fun _ => hS0) ?_
   simp only [sY]
   refine onl (i := 14) (some 41) (.call { callee := .value (.func 84), args := #[.tmp 27, .tmp 28, .tmp 33, .tmp 38, .tmp 40], argTypes := #[24, 22, 75, 31, 5] }) 4 (fun K hK => ?_)
   unfold bareOp
   refine OpW.out (wp_of_enter (run_call _ _ _ _ 84 Tryz.func84 (vs := #[(.agg #[υ P, υ Q, υ G]), υ y, .agg #[υ x, υ x2], .agg #[υ zi.r0, υ zi.r1, υ zi.s0, υ zi.s1, υ zi.c0, υ zi.c1, υ zi.z0, υ zi.z1], .int .u8 (i : Int)]) (by simp only [List.map_toArray, List.map_cons, List.map_nil]; rfl) rfl (by kernel_rfl) (by kernel_rfl)) (rproved_any _ (HT.o.below (HBW.o.trans (hS0.mono HBW.o.size))) hP hQ hG hy HXN.o.1 HXN.o.2 HZI.o (by omega) (by omega) HV1.o) ?_)
   rintro e w8 ⟨rfl, hb8⟩
   refine ⟨_, rfl, ?_⟩
   replace hS0 := hS0.trans (hb8.mono hS0.size)
   clear hb8
   refine hK.o _ _ lt8 ?_
   clear hK K
   try simp only [sY]
   refine tkP (i := 15) (some 42) (.unOp .not 4 (.tmp 41)) 4 lt8 ?_
   simp only [sY]
   refine wpAnyB_done (by kernel_rfl) ?_ _
   replace F_g := Lh (F_g.o.keep hS0)
   replace F_v := Lh (F_v.o.keep hS0)
   replace HBW := Kt HBW hS0
   clear hS0
   cases v1 with
   | false =>
    have HN := Lh (show ¬ provB P Q G y (bs.getD i (0, 0)).1 (bs.getD i (0, 0)).2 (ps.getD i Bt.zero) (i : Int) from fun h => by have := HV1.o.2 (HPI.o.1 h); cases this)
    go_wp2_with fail
    go_ret
    exact ⟨by rw [boolP HV.o (fun h => HN.o (h.1 i hlt))]; rfl, HBW.o⟩
   | true =>
    have HPN := Lh (show ∀ j, j < i + 1 → provB P Q G y (bs.getD j (0, 0)).1 (bs.getD j (0, 0)).2 (ps.getD j Bt.zero) (j : Int) from fun j hj => by
     by_cases e : j < i
     · exact HPR.o j e
     · obtain rfl : j = i := by omega
       exact HPI.o.2 (HV1.o.1 rfl))
    go_wp2_with fail
    go_roundw
    case rel => exact ⟨i + 1, by omega, by go_num, HPN.o, F_g.o, F_v.o, HBW.o⟩
    case measure => simp [intOf] <;> omega
  case neg =>
   obtain rfl : i = n := by omega
   have hd : decide ((i : Int) < (i : Int)) = false := decide_eq_false (by omega)
   have HOK := Lh (okS_all HH.o (by rw [← HL1.o]; exact HPR.o))
   have v2 := F_v.o.c 2 _ rfl
   cases one with
   | false =>
    obtain ⟨⟨q0, q1, q2, q3, q4, q5, q6, q7, q8, q9, q10⟩, -⟩ := F_v.o.k11
    obtain ⟨e, he⟩ := Prop.bool (z = Bt.zero)
    have HE := Lh (show v = e by
     have h1 : v = true ↔ z = Bt.zero := HV.o.trans ⟨fun h => by rcases h.2 with ⟨h2, -⟩ | ⟨-, h2⟩; cases h2; exact h2, fun h => ⟨HPR.o, .inr ⟨rfl, h⟩⟩⟩
     rw [Bool.eq_iff_iff, h1, he])
    have heq := eq_bit2 z Bt.zero e he
    simp only [Bt.zero] at heq
    clear he
    go_wp2_with fail
    go_ret
    exact ⟨by rw [HE.o]; rfl, HBW.o⟩
   | true =>
    obtain ⟨ax, ay, hax⟩ : ∃ x y, allP P bs = (x, y) := ⟨_, _, rfl⟩
    have HNN := Lh (show ∀ p, p ∈ bs → 0 ≤ p.1 ∧ 0 ≤ p.2 from fun p hp => ⟨(U1.o p hp).1.1, (U1.o p hp).2.1⟩)
    have HAN := Lh (show 0 ≤ ax ∧ 0 ≤ ay by have := allP_nn hP bs HNN.o; rw [hax] at this; exact this)
    obtain ⟨v1, hv1⟩ := Prop.bool (provB P Q G y ax ay z 255)
    have HV1 := Lh hv1
    have HEB := Lh (show v = v1 by
     have h1 : v = true ↔ provB P Q G y ax ay z 255 := HV.o.trans ⟨fun h => by have h2 := (h.2.resolve_right (fun h3 => by cases h3.1)).2.2; rw [hax] at h2; exact h2, fun h => ⟨HPR.o, .inl ⟨rfl, HOK.o, by rw [hax]; exact h⟩⟩⟩
     rw [Bool.eq_iff_iff, h1, hv1])
    have HAX := Lh hax
    clear hax hv1
    go_wp2_with fail
    have hS0 : Below wr.heap.size wr wr.drew := (Below.refl _ _).drew
    refine wp_region_stage 8 (fun w' => Below wr.heap.size wr w') (by kernel_rfl) ?_
    refine tkL (i := 0) (some 50) (.load 24 (.tmp 4)) 24 [8] (v := ?_) hS0 (fun w' hSw => ?_) ?_
    rotate_left
    · have g0 := (F_g.o.keep hSw).c 0 _ rfl; have g1 := (F_g.o.keep hSw).c 1 _ rfl; have g2 := (F_g.o.keep hSw).c 2 _ rfl
      unfold bareOp; go_simp; try with_reducible rfl
    simp only [sY]
    refine tkP (i := 1) (some 51) (.move (.tmp 1)) 22 (fun _ => hS0) ?_
    simp only [sY]
    refine tkL (i := 2) (some 52) (.load 24 (.tmp 4)) 24 [5, 8] (v := ?_) hS0 (fun w' hSw => ?_) ?_
    rotate_left
    · have g0 := (F_g.o.keep hSw).c 0 _ rfl; have g1 := (F_g.o.keep hSw).c 1 _ rfl; have g2 := (F_g.o.keep hSw).c 2 _ rfl
      unfold bareOp; go_simp; try with_reducible rfl
    simp only [sY]
    refine tkP (i := 3) (some 53) (.fieldAddr 33 (.tmp 7) 0) 0 (fun _ => hS0) ?_
    simp only [sY]
    refine tkL (i := 4) (some 54) (.load 27 (.tmp 53)) 27 [5, 8] (v := ?_) hS0 (fun w' hSw => ?_) ?_
    rotate_left
    · have g0 := (F_g.o.keep hSw).c 0 _ rfl; have g1 := (F_g.o.keep hSw).c 1 _ rfl; have g2 := (F_g.o.keep hSw).c 2 _ rfl; have q0 := (F_v.o.keep hSw).c 0 _ rfl; have q1 := (F_v.o.keep hSw).c 1 _ rfl; have q2 := (F_v.o.keep hSw).c 2 _ rfl; have q3 := (F_v.o.keep hSw).c 3 _ rfl; have q4 := (F_v.o.keep hSw).c 4 _ rfl; have q5 := (F_v.o.keep hSw).c 5 _ rfl; have q6 := (F_v.o.keep hSw).c 6 _ rfl; have q7 := (F_v.o.keep hSw).c 7 _ rfl; have q8 := (F_v.o.keep hSw).c 8 _ rfl; have q9 := (F_v.o.keep hSw).c 9 _ rfl; have q10 := (F_v.o.keep hSw).c 10 _ rfl
      unfold bareOp; go_simp; try with_reducible rfl
    simp only [sY]
    refine tkP (i := 6) (some 56) (.fieldAddr 33 (.tmp 7) 3) 0 (fun _ => hS0) ?_
    simp only [sY]
    refine tkL (i := 7) (some 57) (.load 31 (.tmp 56)) 31 [8] (v := ?_) hS0 (fun w' hSw => ?_) ?_
    rotate_left
    · have g0 := (F_g.o.keep hSw).c 0 _ rfl; have g1 := (F_g.o.keep hSw).c 1 _ rfl; have g2 := (F_g.o.keep hSw).c 2 _ rfl; have q0 := (F_v.o.keep hSw).c 0 _ rfl; have q1 := (F_v.o.keep hSw).c 1 _ rfl; have q2 := (F_v.o.keep hSw).c 2 _ rfl; have q3 := (F_v.o.keep hSw).c 3 _ rfl; have q4 := (F_v.o.keep hSw).c 4 _ rfl; have q5 := (F_v.o.keep hSw).c 5 _ rfl; have q6 := (F_v.o.keep hSw).c 6 _ rfl; have q7 := (F_v.o.keep hSw).c 7 _ rfl; have q8 := (F_v.o.keep hSw).c 8 _ rfl; have q9 := (F_v.o.keep hSw).c 9 _ rfl; have q10 := (F_v.o.keep hSw).c 10 _ rfl
      unfold bareOp; go_simp; try with_reducible rfl
    simp only [sY]
    refine onl (i := 5) (some 55) (.call { callee := .value (.func 85), args := #[.tmp 52, .tmp 54], argTypes := #[24, 27] }) 75 (fun K hK => ?_)
    unfold bareOp
    refine OpW.out (wp_of_enter (run_call _ _ _ _ 85 Tryz.func85 (vs := #[(.agg #[υ P, υ Q, υ G]), .slice (some ⟨s, o, none⟩) i c]) (by simp only [List.map_toArray, List.map_cons, List.map_nil]; rfl) rfl (by kernel_rfl) (by kernel_rfl)) (rall_any _ HH.o (H1.o.keep (HBW.o.trans (hS0.mono HBW.o.size))) HNN.o HOK.o (by omega) HAX.o) ?_)
    rintro e w8 ⟨rfl, hb8⟩
    refine ⟨_, rfl, ?_⟩
    replace hS0 := hS0.trans (hb8.mono hS0.size)
    clear hb8
    refine hK.o _ _ (fun _ => hS0) ?_
    clear hK K
    try simp only [sY]
    refine onl (i := 8) (some 58) (.call { callee := .value (.func 84), args := #[.tmp 50, .tmp 51, .tmp 55, .tmp 57, .const (.int .u8 255)], argTypes := #[24, 22, 75, 31, 5] }) 4 (fun K hK => ?_)
    unfold bareOp
    refine OpW.out (wp_of_enter (run_call _ _ _ _ 84 Tryz.func84 (vs := #[(.agg #[υ P, υ Q, υ G]), υ y, .agg #[υ ax, υ ay], .agg #[υ z.r0, υ z.r1, υ z.s0, υ z.s1, υ z.c0, υ z.c1, υ z.z0, υ z.z1], .int .u8 255]) (by simp only [List.map_toArray, List.map_cons, List.map_nil]; rfl) rfl (by kernel_rfl) (by kernel_rfl)) (rproved_any _ (HT.o.below (HBW.o.trans (hS0.mono HBW.o.size))) hP hQ hG hy HAN.o.1 HAN.o.2 UZ.o (by decide) (by decide) HV1.o) ?_)
    rintro e w9 ⟨rfl, hb9⟩
    refine ⟨_, rfl, ?_⟩
    replace hS0 := hS0.trans (hb9.mono hS0.size)
    clear hb9
    refine hK.o _ _ lt8 ?_
    clear hK K
    try simp only [sY]
    refine tkP (i := 9) (some 8) (.assign (.tmp 58)) 4 lt8 ?_
    simp only [sY]
    refine wpAnyB_done (by kernel_rfl) ?_ _
    go_wp2_with fail
    go_ret
    exact ⟨by rw [HEB.o]; rfl, HBW.o.trans (hS0.mono HBW.o.size)⟩
set_option maxHeartbeats 8000000 in
theorem rMay_any {P Q G y : Int} {n : Nat} {V : Vt} {v : Bool} (w : World) (hT : Tabs w) (hH : Has P Q G) (hy : 0 ≤ y) (hn : n ≤ 10) (hn1 : 1 ≤ n) (hV : VtIn w V) (hv : v = true ↔ validP P Q G y n V) :
 Calls Tryz.prog 42 #[.agg #[υ P, υ Q, υ G], υ y, .int .i64 (n : Int), V.v] w fun e w' => e = .returned (.bool v) ∧ Below w.heap.size w w' := by
 by_cases h1 : V.n = n
 case neg =>
  have HVF := Lh (show v = false from boolP hv (fun h => h1 h.1))
  have hne : ¬ ((V.n : Int) = (n : Int)) := by omega
  have F_v := Lh (VBox.at (w.alloc (.cells #[υ P, υ Q, υ G] 24)) V 33 (w.heap.size + 1) (by simp))
  have HBW := Lh (show Below w.heap.size w ((w.alloc (.cells #[υ P, υ Q, υ G] 24)).alloc (.cells V.ca 33)) from ((Below.refl _ _).alloc (Nat.le_refl _) _).alloc (by simp) _)
  clear hT hH hV hv h1
  obtain ⟨-, v0, v1, -⟩ := id F_v.o
  unfold Vt.v
  go_enter Tryz.func42, Tryz.ntmps42
  go_wp2_with fail
  go_ret
  exact ⟨by rw [HVF.o]; rfl, HBW.o⟩
 case pos =>
 by_cases h2 : V.m = n
 case neg =>
  have HVF := Lh (show v = false from boolP hv (fun h => h2 h.2.1))
  have hne : ¬ ((V.m : Int) = (n : Int)) := by omega
  have F_v := Lh (VBox.at (w.alloc (.cells #[υ P, υ Q, υ G] 24)) V 33 (w.heap.size + 1) (by simp))
  have HBW := Lh (show Below w.heap.size w ((w.alloc (.cells #[υ P, υ Q, υ G] 24)).alloc (.cells V.ca 33)) from ((Below.refl _ _).alloc (Nat.le_refl _) _).alloc (by simp) _)
  subst h1
  clear hT hH hV hv h2
  obtain ⟨-, v0, v1, -⟩ := id F_v.o
  unfold Vt.v
  go_enter Tryz.func42, Tryz.ntmps42
  go_wp2_with fail
  go_ret
  exact ⟨by rw [HVF.o]; rfl, HBW.o⟩
 case pos =>
 obtain ⟨g1, g2, g3, g4, g5, g6, g7⟩ := hV
 obtain ⟨a, k, c, bs, b, m, d, ps, one, z⟩ := V
 simp only at *
 subst h1 h2
 exact rmay_aux w hT hH hy hn hn1 g1 g2 g4 g5 g7 (hv.trans ⟨fun h => ⟨h.2.2.1, h.2.2.2⟩, fun h => ⟨rfl, rfl, h.1, h.2⟩⟩)
open Go Go.RowKit Num Sha
theorem run_neq_sealed (ρ : Operand → Value) (w : World) (dst : Option Tmp) (ty : TypeId) (x y : Operand) {a b c d : Int} {q : Bool} (h1 : ρ x = .agg #[υ a, υ b]) (h2 : ρ y = .agg #[υ c, υ d]) (hq : q = true ↔ (a, b) = (c, d)) :
 (execOp ρ (bareOp dst (.binOp .neq 75 x y 75) ty)).run Tryz.prog w = .ok (.value (.bool (!q))) w := by
 have hq' : q = (a == c && b == d) := by
  rw [Bool.eq_iff_iff, hq]
  simp
 subst hq'
 unfold bareOp
 by_cases e1 : a = c
 · subst e1
   by_cases e2 : b = d
   · subst e2; go_simp
   · have f2 : (b == d) = false := beq_eq_false_iff_ne.2 e2
     go_simp
 · have f1 : (a == c) = false := beq_eq_false_iff_ne.2 e1
   go_simp
set_option maxHeartbeats 16000000 in
theorem rrevealed_any {P Q G : Int} {n : Nat} {R : Rv} {v : Bool} (w : World) (hR : RvIn w R) (hrn : R.n ≤ 1000) (hn : n ≤ 1000) (hrm : R.m ≤ 1000) (hv : v = true ↔ rangeP Q n R) :
 Calls Tryz.prog 39 #[(.agg #[υ P, υ Q, υ G]), .int .i64 (n : Int), R.v] w fun e w' => e = .returned (.bool v) ∧ Below w.heap.size w w' := by
 have HR := Lh hR
 have HV := Lh hv
 have HL2 := Lh hR.h2.len
 clear hR hv
 unfold Rv.v
 obtain ⟨F_g, F_r, HBW⟩ := bx2 w [υ P, υ Q, υ G] 24 [.slice R.a R.n R.c, .slice R.b R.m R.d] 36
 go_enter Tryz.func39, Tryz.ntmps39
 go_wp2_with fail
 go_loopw [7] (fun c7 wr => ∃ i : Nat, i ≤ R.m ∧ c7 = .int .i64 i ∧ Hid (∀ j, j < i → R.ns.getD j 0 < Q) ∧ Hid (Cl wr w.heap.size [υ P, υ Q, υ G]) ∧ Hid (Cl wr (w.heap.size + 1) [.slice R.a R.n R.c, .slice R.b R.m R.d]) ∧ Hid (Below w.heap.size w wr)) (fun c7 _ => R.m - (intOf c7).toNat)
 case atStart => exact ⟨0, by omega, rfl, Lh (fun j hj => by omega), F_g.o, F_r.o, HBW.o⟩
 case round =>
  clear F_g F_r HBW
  obtain ⟨i, hi, rfl, HPR, F_g, F_r, HBW⟩ := hrel
  have hwi : IntKind.i64.wrap ((i : Int) + 1) = (i : Int) + 1 := IntWalk.i64_in _ (by omega)
  have r0 := F_r.o.c 0 _ rfl
  have r1 := F_r.o.c 1 _ rfl
  by_cases hlt : i < R.m
  case pos =>
   have hd : decide ((i : Int) < (R.m : Int)) = true := decide_eq_true (by omega)
   have hi0 : (0 : Int) ≤ (i : Int) := by omega
   have hi2 : (i : Int) < (R.m : Int) := by omega
   obtain ⟨s1, o1, hsa, hsl, e0, -⟩ := (HR.o.h2.keep HBW.o).at i hlt
   rw [hsa] at r1
   have HSA := Lh hsa
   obtain ⟨x, hx⟩ : ∃ x, R.ns.getD i 0 = x := ⟨_, rfl⟩
   rw [hx] at e0
   have HX := Lh hx
   have HMX := Lh (show x ∈ R.ns by rw [← hx, List.getD_eq_getElem?_getD, List.getElem?_eq_getElem (by rw [← HL2.o]; exact hlt)]; exact List.getElem_mem _)
   clear hx hsa
   have g1 := F_g.o.c 1 _ rfl
   by_cases hxq : x < Q
   case neg =>
    have hd2 : decide (Q ≤ x) = true := by simp; omega
    have HZ := Lh (show v = false from boolP HV.o (fun h => h.2.1 ⟨x, HMX.o, by omega⟩))
    go_wp2_with fail
    go_quiet (fail)
    go_wp2_with fail
    go_ret
    exact ⟨by rw [HZ.o]; rfl, below_drewN HBW.o _⟩
   case pos =>
    have hd2 : decide (Q ≤ x) = false := by simp; omega
    have HPN := Lh (show ∀ j, j < i + 1 → R.ns.getD j 0 < Q from fun j hj => by
     by_cases e : j < i
     · exact HPR.o j e
     · obtain rfl : j = i := by omega
       rw [HX.o]; exact hxq)
    go_wp2_with fail
    go_quiet (fail)
    go_wp2_with fail
    go_roundw
    case rel => exact ⟨i + 1, by omega, by go_num, HPN.o, F_g.o.keep (below_drewN (Below.refl _ _) _), F_r.o.keep (below_drewN (Below.refl _ _) _), below_drewN HBW.o _⟩
    case measure => simp [intOf] <;> omega
  case neg =>
   have hd : decide ((i : Int) < (R.m : Int)) = false := decide_eq_false (by omega)
   have HQ := Lh (show ¬ ∃ x, x ∈ R.ns ∧ Q ≤ x from fun ⟨x, hx, hq⟩ => by
    obtain ⟨j, hj, rfl⟩ := List.getElem_of_mem hx
    have := HPR.o j (by have := HL2.o; omega)
    rw [List.getD_eq_getElem?_getD, List.getElem?_eq_getElem hj] at this
    have h2 : R.ns[j] < Q := this
    omega)
   by_cases hmn : R.m = n
   case neg =>
    have hne : ¬ ((R.m : Int) = (n : Int)) := by omega
    have hd3 : ((R.m : Int) == (n : Int)) = false := beq_eq_false_iff_ne.2 hne
    have HZ := Lh (show v = false from boolP HV.o (fun h => hmn h.1))
    go_wp2_with fail
    go_ret
    exact ⟨by rw [HZ.o]; rfl, HBW.o⟩
   case pos =>
    have hd3 : ((R.m : Int) == (n : Int)) = true := beq_iff_eq.2 (by omega)
    have HMN := Lh hmn
    clear hmn
    go_wp2_with fail
    refine (rMarks_any _ (HR.o.h1.keep HBW.o) (by omega)).mono ?_
    rintro e w3 ⟨rfl, hb3⟩
    have HB3 := Kt HBW hb3
    clear hb3
    have HZ := Lh (show v = markedS (n : Int) R.ms by
     rw [Bool.eq_iff_iff, HV.o]
     exact ⟨fun h => h.2.2, fun h => ⟨HMN.o, HQ.o, h⟩⟩)
    go_wp2_with fail
    go_ret
    exact ⟨by rw [HZ.o]; rfl, HB3.o⟩
set_option maxHeartbeats 16000000 in
theorem rIs_any {P Q G y : Int} {n : Nat} {V : Vt} {R : Rv} {v : Bool} (w : World) (hH : Has P Q G) (y0 : 0 ≤ y) (yP : y < P) (hn : n ≤ 10) (hV : VtIn w V) (hR : RvIn w R) (hrg : rangeP Q n R) (hrn : R.n ≤ 1000) (hv : v = true ↔ matchP P G y n V R) :
 Calls Tryz.prog 40 #[(.agg #[υ P, υ Q, υ G]), υ y, .int .i64 (n : Int), V.v, R.v] w fun e w' => e = .returned (.bool v) ∧ Below w.heap.size w w' := by
 have HH := Lh hH
 have HV := Lh hV
 have HR := Lh hR
 have HRG := Lh hrg
 have HVV := Lh hv
 have HL2 := Lh hR.h2.len
 have HRQ := Lh (show 5 ≤ P ∧ P < 2147483648 ∧ 2 ≤ Q ∧ Q < 2147483648 ∧ 0 ≤ G by obtain ⟨p5, p3, hQ', pq, g2, gP⟩ := id hH; omega)
 clear hH hV hR hrg hv
 unfold Vt.v Rv.v
 obtain ⟨F_g, F_v, F_r, HBW⟩ := bx3 w [υ P, υ Q, υ G] 24 V.cl 33 [.slice R.a R.n R.c, .slice R.b R.m R.d] 36
 go_enter Tryz.func40, Tryz.ntmps40
 go_wp2_with fail
 go_loopw [11] (fun c11 wr => ∃ i : Nat, i ≤ n ∧ c11 = .int .i64 i ∧ Hid (i = 0 ∨ V.n = n) ∧ Hid (∀ j, j < i → V.bs.getD j (0, 0) = encP P G y (msgS R.ms (j : Int)) (R.ns.getD j 0)) ∧ Hid (Cl wr w.heap.size [υ P, υ Q, υ G]) ∧ Hid (Cl wr (w.heap.size + 1) V.cl) ∧ Hid (Cl wr (w.heap.size + 1 + 1) [.slice R.a R.n R.c, .slice R.b R.m R.d]) ∧ Hid (Below w.heap.size w wr)) (fun c11 _ => n - (intOf c11).toNat)
 case atStart => exact ⟨0, by omega, rfl, .inl rfl, Lh (fun j hj => by omega), F_g.o, F_v.o, F_r.o, HBW.o⟩
 case round =>
  clear F_g F_v F_r HBW
  obtain ⟨i, hi, rfl, HIN, HPR, F_g, F_v, F_r, HBW⟩ := hrel
  have hwi : IntKind.i64.wrap ((i : Int) + 1) = (i : Int) + 1 := IntWalk.i64_in _ (by omega)
  have v0 := F_v.o.c 0 _ rfl
  by_cases hvn : V.n = n
  case neg =>
   have hne : ¬ ((V.n : Int) = (n : Int)) := by omega
   have hd3 : ((V.n : Int) == (n : Int)) = false := beq_eq_false_iff_ne.2 hne
   have HZ := Lh (show v = false from boolP HVV.o (fun h => hvn h.1))
   by_cases hlt : i < n
   case pos =>
    have hd : decide ((i : Int) < (n : Int)) = true := decide_eq_true (by omega)
    go_wp2_with fail
    go_ret
    exact ⟨by rw [HZ.o]; rfl, HBW.o⟩
   case neg =>
    have hd : decide ((i : Int) < (n : Int)) = false := decide_eq_false (by omega)
    go_wp2_with fail
    go_ret
    exact ⟨by rw [HZ.o]; rfl, HBW.o⟩
  case pos =>
   have hd3 : ((V.n : Int) == (n : Int)) = true := beq_iff_eq.2 (by omega)
   have HVN := Lh hvn
   have hnV : n ≤ V.n := by omega
   have hnR : n ≤ R.m := by have := HRG.o.1; omega
   clear hvn
   by_cases hlt : i < n
   case neg =>
    have hd : decide ((i : Int) < (n : Int)) = false := decide_eq_false (by omega)
    have HZ := Lh (show v = true from HVV.o.2 ⟨HVN.o, fun j hj => HPR.o j (by omega)⟩)
    go_wp2_with fail
    go_ret
    exact ⟨by rw [HZ.o]; rfl, HBW.o⟩
   case pos =>
    have hd : decide ((i : Int) < (n : Int)) = true := decide_eq_true (by omega)
    have hi0 : (0 : Int) ≤ (i : Int) := by omega
    have hi2 : (i : Int) < (n : Int) := by omega
    have hi3 : (i : Int) < (V.n : Int) := by omega
    have hi4 : (i : Int) < (R.m : Int) := by omega
    have cS : Tryz.prog.cellsOf 75 = 2 := by kernel_rfl
    obtain ⟨s1, o1, hsa, hsl, e0, e1⟩ := HV.o.h1.at i (by omega)
    obtain ⟨s2, o2, hsb, hsl2, f0, -⟩ := HR.o.h2.at i (by omega)
    obtain ⟨x, x2, hxy⟩ : ∃ x y, V.bs.getD i (0, 0) = (x, y) := ⟨_, _, rfl⟩
    rw [hxy] at e0 e1
    simp only at e0 e1
    obtain ⟨nn, hnn⟩ : ∃ x, R.ns.getD i 0 = x := ⟨_, rfl⟩
    rw [hnn] at f0
    have HNN := Lh (show 0 ≤ nn ∧ nn < Q by
     have hm : nn ∈ R.ns := by rw [← hnn, List.getD_eq_getElem?_getD, List.getElem?_eq_getElem (by rw [← HL2.o]; omega)]; exact List.getElem_mem _
     refine ⟨(HR.o.u2 _ hm).1, ?_⟩
     by_cases h : nn < Q
     · exact h
     · exact absurd ⟨nn, hm, by omega⟩ HRG.o.2.1)
    obtain ⟨mm, hmm⟩ : ∃ mm, msgS R.ms (i : Int) = mm := ⟨_, rfl⟩
    have HM01 := Lh (show mm = 0 ∨ mm = 1 by rw [← hmm]; exact msgS_01 _ _)
    have hwm : IntKind.u64.wrap mm = mm := IntWalk.u64_in _ (by have := HM01.o; omega)
    obtain ⟨ea, hea⟩ : ∃ x, powm G nn P = x := ⟨_, rfl⟩
    obtain ⟨eb, heb⟩ : ∃ x, powm G mm P * powm y nn P % P = x := ⟨_, rfl⟩
    have HEA := Lh hea
    have HEB := Lh heb
    have HENC := Lh (show encP P G y (msgS R.ms (i : Int)) (R.ns.getD i 0) = (ea, eb) by unfold encP; rw [hmm, hnn, hea, heb])
    have HXY := Lh hxy
    have HMM := Lh hmm
    have F_e := Lh (show (w.cell? ⟨s1, o1 + i * 2, none⟩ = some (υ x) ∧ w.cell? ⟨s1, o1 + i * 2 + 1, none⟩ = some (υ x2)) ∧ s1 < w.heap.size from ⟨⟨e0, e1⟩, hsl⟩)
    have F_n := Lh (show w.cell? ⟨s2, o2 + i, none⟩ = some (υ nn) ∧ s2 < w.heap.size from ⟨f0, hsl2⟩)
    have HSA := Lh hsa
    have HSB := Lh hsb
    have H1 := Lh HR.o.h1
    obtain ⟨q, hq⟩ := Prop.bool ((x, x2) = (ea, eb))
    have HQ := Lh hq
    clear hq
    clear e0 e1 f0 hsl hsl2 hxy hnn hmm hea heb hsa hsb
    go_wp2_with fail
    clear v0
    have hS0 : Below wr.heap.size wr wr.drew := (Below.refl _ _).drew
    refine wp_region_stage 18 (fun w' => Below wr.heap.size wr w') (by kernel_rfl) ?_
    refine tkP (i := 0) (some 24) (.fieldAddr 33 (.tmp 8) 0) 0 (fun _ => hS0) ?_
    simp only [sY]
    refine tkL (i := 1) (some 25) (.load 27 (.tmp 24)) 27 [3, 4, 18] (v := ?_) hS0 (fun w' hSw => ?_) ?_
    rotate_left
    · have g0 := (F_g.o.keep hSw).c 0 _ rfl; have g1 := (F_g.o.keep hSw).c 1 _ rfl; have g2 := (F_g.o.keep hSw).c 2 _ rfl; have v0 := (F_v.o.keep hSw).c 0 _ rfl; have r0 := (F_r.o.keep hSw).c 0 _ rfl; have r1 := (F_r.o.keep hSw).c 1 _ rfl; rw [HSA.o] at v0; rw [HSB.o] at r1; have e0 := ((HBW.o.trans (hSw.mono HBW.o.size)).cell (p := ⟨s1, o1 + i * 2, none⟩) F_e.o.2).trans F_e.o.1.1; have e1 := ((HBW.o.trans (hSw.mono HBW.o.size)).cell (p := ⟨s1, o1 + i * 2 + 1, none⟩) F_e.o.2).trans F_e.o.1.2; have f0 := ((HBW.o.trans (hSw.mono HBW.o.size)).cell (p := ⟨s2, o2 + i, none⟩) F_n.o.2).trans F_n.o.1
      unfold bareOp; go_simp; try with_reducible rfl
    simp only [sY]
    refine tkP (i := 2) (some 26) (.move (.tmp 11)) 3 (fun _ => hS0) ?_
    simp only [sY]
    refine tkP (i := 3) (some 27) (.indexAddr 27 (.tmp 25) (.tmp 26)) 0 (fun _ => hS0) ?_
    simp only [sY]
    refine tkL (i := 4) (some 28) (.load 75 (.tmp 27)) 75 [18] (v := ?_) hS0 (fun w' hSw => ?_) ?_
    rotate_left
    · have g0 := (F_g.o.keep hSw).c 0 _ rfl; have g1 := (F_g.o.keep hSw).c 1 _ rfl; have g2 := (F_g.o.keep hSw).c 2 _ rfl; have v0 := (F_v.o.keep hSw).c 0 _ rfl; have r0 := (F_r.o.keep hSw).c 0 _ rfl; have r1 := (F_r.o.keep hSw).c 1 _ rfl; rw [HSA.o] at v0; rw [HSB.o] at r1; have e0 := ((HBW.o.trans (hSw.mono HBW.o.size)).cell (p := ⟨s1, o1 + i * 2, none⟩) F_e.o.2).trans F_e.o.1.1; have e1 := ((HBW.o.trans (hSw.mono HBW.o.size)).cell (p := ⟨s1, o1 + i * 2 + 1, none⟩) F_e.o.2).trans F_e.o.1.2; have f0 := ((HBW.o.trans (hSw.mono HBW.o.size)).cell (p := ⟨s2, o2 + i, none⟩) F_n.o.2).trans F_n.o.1
      unfold bareOp; go_simp; try with_reducible rfl
    simp only [sY]
    refine tkL (i := 5) (some 29) (.load 24 (.tmp 5)) 24 [17, 18] (v := ?_) hS0 (fun w' hSw => ?_) ?_
    rotate_left
    · have g0 := (F_g.o.keep hSw).c 0 _ rfl; have g1 := (F_g.o.keep hSw).c 1 _ rfl; have g2 := (F_g.o.keep hSw).c 2 _ rfl
      unfold bareOp; go_simp; try with_reducible rfl
    simp only [sY]
    refine tkP (i := 6) (some 30) (.move (.tmp 1)) 22 (fun _ => hS0) ?_
    simp only [sY]
    refine tkP (i := 7) (some 31) (.fieldAddr 36 (.tmp 9) 0) 0 (fun _ => hS0) ?_
    simp only [sY]
    refine tkL (i := 8) (some 32) (.load 25 (.tmp 31)) 25 [10, 11, 17, 18] (v := ?_) hS0 (fun w' hSw => ?_) ?_
    rotate_left
    · have g0 := (F_g.o.keep hSw).c 0 _ rfl; have g1 := (F_g.o.keep hSw).c 1 _ rfl; have g2 := (F_g.o.keep hSw).c 2 _ rfl; have v0 := (F_v.o.keep hSw).c 0 _ rfl; have r0 := (F_r.o.keep hSw).c 0 _ rfl; have r1 := (F_r.o.keep hSw).c 1 _ rfl; rw [HSA.o] at v0; rw [HSB.o] at r1; have e0 := ((HBW.o.trans (hSw.mono HBW.o.size)).cell (p := ⟨s1, o1 + i * 2, none⟩) F_e.o.2).trans F_e.o.1.1; have e1 := ((HBW.o.trans (hSw.mono HBW.o.size)).cell (p := ⟨s1, o1 + i * 2 + 1, none⟩) F_e.o.2).trans F_e.o.1.2; have f0 := ((HBW.o.trans (hSw.mono HBW.o.size)).cell (p := ⟨s2, o2 + i, none⟩) F_n.o.2).trans F_n.o.1
      unfold bareOp; go_simp; try with_reducible rfl
    simp only [sY]
    refine tkP (i := 9) (some 33) (.move (.tmp 11)) 3 (fun _ => hS0) ?_
    simp only [sY]
    refine tkP (i := 12) (some 36) (.fieldAddr 36 (.tmp 9) 1) 0 (fun _ => hS0) ?_
    simp only [sY]
    refine tkL (i := 13) (some 37) (.load 34 (.tmp 36)) 34 [15, 16, 17, 18] (v := ?_) hS0 (fun w' hSw => ?_) ?_
    rotate_left
    · have g0 := (F_g.o.keep hSw).c 0 _ rfl; have g1 := (F_g.o.keep hSw).c 1 _ rfl; have g2 := (F_g.o.keep hSw).c 2 _ rfl; have v0 := (F_v.o.keep hSw).c 0 _ rfl; have r0 := (F_r.o.keep hSw).c 0 _ rfl; have r1 := (F_r.o.keep hSw).c 1 _ rfl; rw [HSA.o] at v0; rw [HSB.o] at r1; have e0 := ((HBW.o.trans (hSw.mono HBW.o.size)).cell (p := ⟨s1, o1 + i * 2, none⟩) F_e.o.2).trans F_e.o.1.1; have e1 := ((HBW.o.trans (hSw.mono HBW.o.size)).cell (p := ⟨s1, o1 + i * 2 + 1, none⟩) F_e.o.2).trans F_e.o.1.2; have f0 := ((HBW.o.trans (hSw.mono HBW.o.size)).cell (p := ⟨s2, o2 + i, none⟩) F_n.o.2).trans F_n.o.1
      unfold bareOp; go_simp; try with_reducible rfl
    simp only [sY]
    refine tkP (i := 14) (some 38) (.move (.tmp 11)) 3 (fun _ => hS0) ?_
    simp only [sY]
    refine tkP (i := 15) (some 39) (.indexAddr 34 (.tmp 37) (.tmp 38)) 0 (fun _ => hS0) ?_
    simp only [sY]
    refine tkL (i := 16) (some 40) (.load 22 (.tmp 39)) 22 [17, 18] (v := ?_) hS0 (fun w' hSw => ?_) ?_
    rotate_left
    · have g0 := (F_g.o.keep hSw).c 0 _ rfl; have g1 := (F_g.o.keep hSw).c 1 _ rfl; have g2 := (F_g.o.keep hSw).c 2 _ rfl; have v0 := (F_v.o.keep hSw).c 0 _ rfl; have r0 := (F_r.o.keep hSw).c 0 _ rfl; have r1 := (F_r.o.keep hSw).c 1 _ rfl; rw [HSA.o] at v0; rw [HSB.o] at r1; have e0 := ((HBW.o.trans (hSw.mono HBW.o.size)).cell (p := ⟨s1, o1 + i * 2, none⟩) F_e.o.2).trans F_e.o.1.1; have e1 := ((HBW.o.trans (hSw.mono HBW.o.size)).cell (p := ⟨s1, o1 + i * 2 + 1, none⟩) F_e.o.2).trans F_e.o.1.2; have f0 := ((HBW.o.trans (hSw.mono HBW.o.size)).cell (p := ⟨s2, o2 + i, none⟩) F_n.o.2).trans F_n.o.1
      unfold bareOp; go_simp; try with_reducible rfl
    simp only [sY]
    refine onl (i := 10) (some 34) (.call { callee := .value (.func 77), args := #[.tmp 32, .tmp 33], argTypes := #[25, 3] }) 3 (fun K hK => ?_)
    unfold bareOp
    refine OpW.out (wp_of_enter (run_call _ _ _ _ 77 Tryz.func77 (vs := #[.slice R.a R.n R.c, .int .i64 (i : Int)]) (by simp only [List.map_toArray, List.map_cons, List.map_nil]; rfl) rfl (by kernel_rfl) (by kernel_rfl)) (rbit_any _ (H1.o.keep (HBW.o.trans (hS0.mono HBW.o.size))) (by omega)) ?_)
    rintro e w8 ⟨rfl, hw8⟩
    refine ⟨_, rfl, ?_⟩
    rw [hw8, HMM.o]
    clear hw8
    refine hK.o _ _ (fun _ => hS0) ?_
    clear hK K
    try simp only [sY]
    refine tkP (i := 11) (some 35) (.convert 3 22 (.tmp 34)) 22 (fun _ => hS0) ?_
    simp only [sY]
    refine onl (i := 17) (some 41) (.call { callee := .value (.func 78), args := #[.tmp 29, .tmp 30, .tmp 35, .tmp 40], argTypes := #[24, 22, 22, 22] }) 75 (fun K hK => ?_)
    unfold bareOp
    refine OpW.out (wp_of_enter (run_call _ _ _ _ 78 Tryz.func78 (vs := #[(.agg #[υ P, υ Q, υ G]), υ y, υ mm, υ nn]) (by simp only [List.map_toArray, List.map_cons, List.map_nil]; rfl) rfl (by kernel_rfl) (by kernel_rfl)) (rMake_any _ HH.o y0 yP (by have := HM01.o; omega) (by have := HM01.o; have := HRQ.o; omega) HNN.o.1 HNN.o.2 HEA.o HEB.o) ?_)
    rintro e w9 ⟨rfl, hb9⟩
    refine ⟨_, rfl, ?_⟩
    replace hS0 := hS0.trans (hb9.mono hS0.size)
    clear hb9
    refine hK.o _ _ (fun _ => hS0) ?_
    clear hK K
    try simp only [sY]
    refine onl (i := 18) (some 42) (.binOp .neq 75 (.tmp 28) (.tmp 41) 75) 4 (fun K hK => ?_)
    unfold bareOp
    refine OpW.out (wp_of_run (run_neq_sealed _ _ _ _ _ _ rfl rfl HQ.o) ?_)
    refine hK.o _ _ lt8 ?_
    clear hK K
    try simp only [sY]
    refine wpAnyB_done (by kernel_rfl) ?_ _
    replace F_g := Lh (F_g.o.keep hS0)
    replace F_v := Lh (F_v.o.keep hS0)
    replace F_r := Lh (F_r.o.keep hS0)
    replace HBW := Kt HBW hS0
    clear hS0
    cases q with
    | false =>
     have HZ := Lh (show v = false from boolP HVV.o (fun h => by have h2 := h.2 i hlt; rw [HXY.o, HENC.o] at h2; have := HQ.o.2 h2; cases this))
     go_wp2_with fail
     go_ret
     exact ⟨by rw [HZ.o]; rfl, HBW.o⟩
    | true =>
     have HPN := Lh (show ∀ j, j < i + 1 → V.bs.getD j (0, 0) = encP P G y (msgS R.ms (j : Int)) (R.ns.getD j 0) from fun j hj => by
      by_cases e : j < i
      · exact HPR.o j e
      · obtain rfl : j = i := by omega
        rw [HXY.o, HENC.o]; exact HQ.o.1 rfl)
     go_wp2_with fail
     go_roundw
     case rel => exact ⟨i + 1, by omega, by go_num, .inr HVN.o, HPN.o, F_g.o, F_v.o, F_r.o, HBW.o⟩
     case measure => simp [intOf] <;> omega
open Go Go.RowKit Num Sha
end Go.Proofs.YtlbldpkgnonbpaaGreatDoor
