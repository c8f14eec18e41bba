/- tally.accept and the reference's Good. -/
import Derived.Test.YtkjkdfhjfnoalaaGreatDoorTqM
set_option linter.unusedSimpArgs false
set_option linter.unusedVariables false
set_option maxRecDepth 100000
namespace Go.Proofs.YtkjkdfhjfnoalaaGreatDoor
open Go Go.RowKit Num Sha
def prfP (P Q G y a d : Int) (x : Eq3) (t j : Int) : Prop := askS P Q G [x.z] [y, a, d, x.r, x.s] = 0 ∧ evP P Q G y a d x.r x.s x.z [t, j]
def accP (P Q G : Int) (ys : List Int) (ps : List (Int × Int)) (t : Int) (n m : Nat) (xs : List Int) (es : List Eq3) : Prop :=
  numT Q t = true ∧ n = ps.length ∧ m = ps.length ∧ ∀ j, j < ps.length → prfP P Q G (keyOfS P Q t ys ys.length) (ps.getD j (0, 0)).1 (xs.getD j 0) (es.getD j Eq3.zero) t (j : Int)
theorem prf_ret (P Q G y a d : Int) (x : Eq3) (t j : Int) : ∃ (v1 : Bool) (e1 : Int), RetB (lgS (askS P Q G [x.z] [y, a, d, x.r, x.s]) 2) (evP P Q G y a d x.r x.s x.z [t, j]) v1 e1 ∧
    ((e1 = 0 ∧ v1 = true ∧ prfP P Q G y a d x t j) ∨ (e1 = 0 ∧ v1 = false ∧ ¬ prfP P Q G y a d x t j) ∨ (e1 ≠ 0 ∧ v1 = false ∧ ¬ prfP P Q G y a d x t j)) := by
  have hl : lgS (askS P Q G [x.z] [y, a, d, x.r, x.s]) 2 = askS P Q G [x.z] [y, a, d, x.r, x.s] := by
   unfold lgS
   split
   · next h => rw [if_neg (by omega), h]
   · rfl
  rw [hl]
  by_cases h0 : askS P Q G [x.z] [y, a, d, x.r, x.s] = 0
  · by_cases h1 : evP P Q G y a d x.r x.s x.z [t, j]
    · exact ⟨true, 0, .inl ⟨h0, by simp [h1], rfl⟩, .inl ⟨rfl, rfl, h0, h1⟩⟩
    · exact ⟨false, 0, .inl ⟨h0, by simp [h1], rfl⟩, .inr (.inl ⟨rfl, rfl, fun h => h1 h.2⟩)⟩
  · exact ⟨false, _, .inr ⟨h0, rfl, rfl⟩, .inr (.inr ⟨h0, rfl, fun h => h0 h.1⟩)⟩
set_option maxHeartbeats 8000000 in
theorem taccept_any {P Q G t : Int} {a1 a2 a3 b3 : Option Addr} {n1 n2 n3 m3 c1 c2 c3 d3 : Nat} {ys xs : List Int} {ps : List (Int × Int)} {es : List Eq3} {v : Bool} (w : World) (hT : Tabs w) (hH : Has P Q G) (h1 : ShI .u64 w a1 n1 ys) (hy : belowS P ys = true) (hyu : ∀ x, x ∈ ys → U64 x)
    (h2 : ShS w a2 n2 ps) (hs : sumdS P ps = true) (hsu : ∀ q, q ∈ ps → U64 q.1 ∧ U64 q.2) (t0 : -9223372036854775808 ≤ t) (t1 : t ≤ 9223372036854775807) (h3 : ShI .u64 w a3 n3 xs) (u3 : ∀ x, x ∈ xs → U64 x) (h4 : ShQ w b3 m3 es) (u4 : ∀ x, x ∈ es → x.u) (hv : v = true ↔ accP P Q G ys ps t n3 m3 xs es) :
    Calls Tryz.prog 25 #[(.agg #[.int .u64 P, .int .u64 Q, .int .u64 G]), .slice a1 n1 c1, .slice a2 n2 c2, .agg #[.int .i64 t, .slice a3 n3 c3, .slice b3 m3 d3]] w fun e w' => e = .returned (.bool v) ∧ Below w.heap.size w w' := by
  have HT := Lh hT
  have HH := Lh hH
  have H1 := Lh h1
  have HY := Lh hy
  have HYU := Lh hyu
  have H2 := Lh h2
  have HS := Lh (sumdS_true hs)
  have HSU := Lh hsu
  have H3 := Lh h3
  have U3 := Lh u3
  have H4 := Lh h4
  have U4 := Lh u4
  have HV := Lh hv
  have HL1 := Lh h1.len
  have HL2 := Lh h2.len
  have hP : 0 ≤ P := by obtain ⟨p5, p3, hQ', pq, g2, gP⟩ := id hH; omega
  have hQ : 0 ≤ Q := by obtain ⟨p5, p3, hQ', pq, g2, gP⟩ := id hH; omega
  have hG : 0 ≤ G := by obtain ⟨p5, p3, hQ', pq, g2, gP⟩ := id hH; omega
  have HNO := Lh (show ¬ accP P Q G ys ps t n3 m3 xs es → false = v from fun h => by cases v; rfl; exact absurd (hv.1 rfl) h)
  clear hT hH h1 hy hyu h2 hs hsu h3 u3 h4 u4 hv
  have F_g := Lh (show Cl ((w.alloc (.cells #[.int .u64 P, .int .u64 Q, .int .u64 G] 24)).alloc (.cells #[.int .i64 t, .slice a3 n3 c3, .slice b3 m3 d3] 29)) (w.heap.size) [.int .u64 P, .int .u64 Q, .int .u64 G] from (Cl.at w [.int .u64 P, .int .u64 Q, .int .u64 G] 24 (w.heap.size) (by simp)).alloc _)
  have F_p := Lh (show Cl ((w.alloc (.cells #[.int .u64 P, .int .u64 Q, .int .u64 G] 24)).alloc (.cells #[.int .i64 t, .slice a3 n3 c3, .slice b3 m3 d3] 29)) (w.heap.size + 1) [.int .i64 t, .slice a3 n3 c3, .slice b3 m3 d3] from Cl.at (w.alloc (.cells #[.int .u64 P, .int .u64 Q, .int .u64 G] 24)) [.int .i64 t, .slice a3 n3 c3, .slice b3 m3 d3] 29 (w.heap.size + 1) (by simp))
  have HBW := Lh (show Below w.heap.size w ((w.alloc (.cells #[.int .u64 P, .int .u64 Q, .int .u64 G] 24)).alloc (.cells #[.int .i64 t, .slice a3 n3 c3, .slice b3 m3 d3] 29)) from ((Below.refl _ _).alloc (by simp <;> omega) _).alloc (by simp <;> omega) _)
  go_enter Tryz.func25, Tryz.ntmps25
  have q_g_0 := F_g.o.c 0 _ rfl
  have q_g_1 := F_g.o.c 1 _ rfl
  have q_g_2 := F_g.o.c 2 _ rfl
  have q_p_0 := F_p.o.c 0 _ rfl
  have q_p_1 := F_p.o.c 1 _ rfl
  have q_p_2 := F_p.o.c 2 _ rfl
  go_wp2_with fail
  clear q_g_0 q_g_1 q_g_2 q_p_0 q_p_1 q_p_2
  refine (tnumbered_any _ t0 t1 rfl).mono ?_
  rintro e w1 ⟨rfl, hb1⟩
  replace F_g := Lh (F_g.o.keep hb1)
  replace F_p := Lh (F_p.o.keep hb1)
  replace HBW := Lh (HBW.o.trans (hb1.mono HBW.o.size))
  clear hb1
  obtain ⟨nt, hnt⟩ : ∃ nt, numT Q t = nt := ⟨_, rfl⟩
  have HNT := Lh hnt
  rw [hnt]
  clear hnt
  cases nt with
  | false =>
   have q_p_0 := F_p.o.c 0 _ rfl
   have q_p_1 := F_p.o.c 1 _ rfl
   have q_p_2 := F_p.o.c 2 _ rfl
   go_wp2_with fail
   clear q_p_0 q_p_1 q_p_2
   go_ret
   exact ⟨ret_bool (HNO.o (fun h => by have := h.1; rw [HNT.o] at this; cases this)), HBW.o⟩
  | true =>
   obtain ⟨tl, tu, tq⟩ := numT_true HNT.o
   by_cases e1 : n3 = n2
   case neg =>
    have f1 : ¬ ((n3 : Int) = (n2 : Int)) := by omega
    have q_p_0 := F_p.o.c 0 _ rfl
    have q_p_1 := F_p.o.c 1 _ rfl
    have q_p_2 := F_p.o.c 2 _ rfl
    go_wp2_with fail
    clear q_p_0 q_p_1 q_p_2
    go_ret
    exact ⟨ret_bool (HNO.o (fun h => by have := h.2.1; have := HL2.o; omega)), HBW.o⟩
   case pos =>
   subst e1
   by_cases e2 : m3 = n3
   case neg =>
    have f2 : ¬ ((m3 : Int) = (n3 : Int)) := by omega
    have q_p_0 := F_p.o.c 0 _ rfl
    have q_p_1 := F_p.o.c 1 _ rfl
    have q_p_2 := F_p.o.c 2 _ rfl
    go_wp2_with fail
    clear q_p_0 q_p_1 q_p_2
    go_ret
    exact ⟨ret_bool (HNO.o (fun h => by have := h.2.2.1; have := HL2.o; omega)), HBW.o⟩
   case pos =>
   subst e2
   have hm10 : m3 ≤ 10 := by have := HS.o.2.1; have := HL2.o; omega
   have hn18 : n1 ≤ 8 := by have := (belowS_true HY.o).2.1; have := HL1.o; omega
   obtain ⟨key, hkey⟩ : ∃ key, keyOfS P Q t ys ys.length = key := ⟨_, rfl⟩
   have HKY := Lh hkey
   have HKR := Lh (show 0 ≤ key ∧ key < P by rw [← hkey]; obtain ⟨p5, p3, hQ', pq, g2, gP⟩ := id HH.o; exact keyOfS_range (by omega) ys _)
   clear hkey
   have q_g_0 := F_g.o.c 0 _ rfl
   have q_g_1 := F_g.o.c 1 _ rfl
   have q_g_2 := F_g.o.c 2 _ rfl
   have q_p_0 := F_p.o.c 0 _ rfl
   have q_p_1 := F_p.o.c 1 _ rfl
   have q_p_2 := F_p.o.c 2 _ rfl
   go_wp2_with fail
   clear q_g_0 q_g_1 q_g_2 q_p_0 q_p_1 q_p_2
   refine (sKey_any _ hP hQ hG t0 t1 (H1.o.keep HBW.o) (by omega) HYU.o (show keyOS P Q G t ys = (key, 0) by unfold keyOS; rw [if_pos HH.o, HY.o, show numS Q t = true by simp [numS]; omega, HKY.o]; rfl)).mono ?_
   rintro e w2 ⟨rfl, hb2⟩
   replace F_g := Lh (F_g.o.keep hb2)
   replace F_p := Lh (F_p.o.keep hb2)
   replace HBW := Lh (HBW.o.trans (hb2.mono HBW.o.size))
   clear hb2
   have q_p_0 := F_p.o.c 0 _ rfl
   have q_p_1 := F_p.o.c 1 _ rfl
   have q_p_2 := F_p.o.c 2 _ rfl
   go_wp2_with fail
   clear q_p_0 q_p_1 q_p_2
   go_loopw [48] (fun c48 wr => ∃ i : Nat, i ≤ m3 ∧ c48 = .int .i64 i ∧ Hid (∀ j, j < i → prfP P Q G key (ps.getD j (0, 0)).1 (xs.getD j 0) (es.getD j Eq3.zero) t (j : Int)) ∧ Hid (Cl wr w.heap.size [.int .u64 P, .int .u64 Q, .int .u64 G]) ∧ Hid (Cl wr (w.heap.size + 1) [.int .i64 t, .slice a3 m3 c3, .slice b3 m3 d3]) ∧ Hid (Below w.heap.size w wr)) (fun c48 _ => m3 - (intOf c48).toNat)
   case atStart => exact ⟨0, by omega, rfl, (fun j hj => by omega), F_g.o, F_p.o, HBW.o⟩
   case round =>
    clear F_g F_p HBW
    obtain ⟨i, hi, rfl, HA, F_g, F_p, HBW⟩ := hrel
    have hwi : IntKind.i64.wrap ((i : Int) + 1) = (i : Int) + 1 := IntWalk.i64_in _ (by omega)
    have hi0 : (0 : Int) ≤ (i : Int) := by omega
    by_cases hlt : i < m3
    case neg =>
     have hi2 : ¬ ((i : Int) < (m3 : Int)) := by omega
     go_wp2_with fail
     go_ret
     exact ⟨ret_bool (show true = v from (HV.o.2 ⟨HNT.o, HL2.o, HL2.o, fun j hj => by rw [HKY.o]; exact HA.o j (by have := HL2.o; omega)⟩).symm), HBW.o⟩
    case pos =>
     have hi2 : (i : Int) < (m3 : Int) := by omega
     have cS : Tryz.prog.cellsOf 49 = 2 := by kernel_rfl
     have cE : Tryz.prog.cellsOf 53 = 3 := by kernel_rfl
     obtain ⟨s2, o2, hsa, hsl, k0, k1⟩ := (H2.o.keep HBW.o).at i hlt
     obtain ⟨x, y, hxy⟩ : ∃ x y, ps.getD i (0, 0) = (x, y) := ⟨_, _, rfl⟩
     rw [hxy] at k0 k1
     obtain ⟨s3, o3, hsb, hsl3, hpw, -⟩ := (H3.o.keep HBW.o).at i hlt
     obtain ⟨pw, hpe⟩ : ∃ pw, xs.getD i 0 = pw := ⟨_, rfl⟩
     rw [hpe] at hpw
     obtain ⟨s4, o4, z, hsc, hze, hsl4, q0, q1, q2⟩ := (H4.o.keep HBW.o).at i hlt
     have HZD := Lh (show es.getD i Eq3.zero = z by rw [List.getD_eq_getElem?_getD, hze]; rfl)
     have HX0 := Lh (show 0 ≤ x by
      have hm : (x, y) ∈ ps := by rw [← hxy, List.getD_eq_getElem?_getD, List.getElem?_eq_getElem (by have := HL2.o; omega)]; exact List.getElem_mem _
      exact (HSU.o _ hm).1.1)
     have HP0 := Lh (show 0 ≤ pw by
      have hm : pw ∈ xs := by rw [← hpe, List.getD_eq_getElem?_getD, List.getElem?_eq_getElem (by have := H3.o.len; omega)]; exact List.getElem_mem _
      exact (U3.o _ hm).1)
     have HZU := Lh (show z.u from U4.o z (List.mem_of_getElem? hze))
     obtain ⟨v1, e1, hret, hcase⟩ := prf_ret P Q G key x pw z t (i : Int)
     have HRET := Lh hret
     have HCS := Lh hcase
     have HE1 := Lh (And.intro hxy hpe)
     clear hxy hpe hze hret hcase
     subst hsa hsb hsc
     have F_w := Lh (show wr.cell? ⟨s3, o3 + i, none⟩ = some (.int .u64 pw) ∧ s3 < wr.heap.size from ⟨hpw, hsl3⟩)
     have F_z := Lh (show (wr.cell? ⟨s4, o4 + i * 3, none⟩ = some (.int .u64 z.r) ∧ wr.cell? ⟨s4, o4 + i * 3 + 1, none⟩ = some (.int .u64 z.s) ∧ wr.cell? ⟨s4, o4 + i * 3 + 2, none⟩ = some (.int .u64 z.z)) ∧ s4 < wr.heap.size from ⟨⟨q0, q1, q2⟩, hsl4⟩)
     have F_s := Lh (show (wr.cell? ⟨s2, o2 + i * 2, none⟩ = some (.int .u64 x) ∧ wr.cell? ⟨s2, o2 + i * 2 + 1, none⟩ = some (.int .u64 y)) ∧ s2 < wr.heap.size from ⟨⟨k0, k1⟩, hsl⟩)
     clear hpw q0 q1 q2
     go_wp2_with fail
     clear k0 k1
     have F_c := Lh (show Cl (wr.alloc (.cells #[.int .u64 x, .int .u64 y] 49)) wr.heap.size [.int .u64 x, .int .u64 y] from Cl.at wr [.int .u64 x, .int .u64 y] 49 wr.heap.size rfl)
     have HK := Lh (show Below wr.heap.size wr (wr.alloc (.cells #[.int .u64 x, .int .u64 y] 49)) from (Below.refl _ _).alloc (Nat.le_refl _) _)
     obtain ⟨cb, hcb⟩ : ∃ cb, cb = wr.heap.size := ⟨_, rfl⟩
     obtain ⟨wx, hwx⟩ : ∃ wx, wx = wr.alloc (.cells #[.int .u64 x, .int .u64 y] 49) := ⟨_, rfl⟩
     rw [← hwx] at F_c HK ⊢
     rw [← hcb] at F_c ⊢
     clear hwx hcb
     replace F_g := Lh (F_g.o.keep HK.o)
     replace F_p := Lh (F_p.o.keep HK.o)
     replace F_w := Lh (show wx.cell? ⟨s3, o3 + i, none⟩ = some (.int .u64 pw) ∧ s3 < wx.heap.size from ⟨(HK.o.cell (p := ⟨s3, o3 + i, none⟩) F_w.o.2).trans F_w.o.1, Nat.lt_of_lt_of_le F_w.o.2 HK.o.size⟩)
     replace F_z := Lh (show (wx.cell? ⟨s4, o4 + i * 3, none⟩ = some (.int .u64 z.r) ∧ wx.cell? ⟨s4, o4 + i * 3 + 1, none⟩ = some (.int .u64 z.s) ∧ wx.cell? ⟨s4, o4 + i * 3 + 2, none⟩ = some (.int .u64 z.z)) ∧ s4 < wx.heap.size from ⟨⟨(HK.o.cell (p := ⟨s4, o4 + i * 3, none⟩) F_z.o.2).trans F_z.o.1.1, (HK.o.cell (p := ⟨s4, o4 + i * 3 + 1, none⟩) F_z.o.2).trans F_z.o.1.2.1, (HK.o.cell (p := ⟨s4, o4 + i * 3 + 2, none⟩) F_z.o.2).trans F_z.o.1.2.2⟩, Nat.lt_of_lt_of_le F_z.o.2 HK.o.size⟩)
     replace F_s := Lh (show (wx.cell? ⟨s2, o2 + i * 2, none⟩ = some (.int .u64 x) ∧ wx.cell? ⟨s2, o2 + i * 2 + 1, none⟩ = some (.int .u64 y)) ∧ s2 < wx.heap.size from ⟨⟨(HK.o.cell (p := ⟨s2, o2 + i * 2, none⟩) F_s.o.2).trans F_s.o.1.1, (HK.o.cell (p := ⟨s2, o2 + i * 2 + 1, none⟩) F_s.o.2).trans F_s.o.1.2⟩, Nat.lt_of_lt_of_le F_s.o.2 HK.o.size⟩)
     replace HBW := Lh (HBW.o.trans (HK.o.mono HBW.o.size))
     clear HK
     have hS0 : Below wx.heap.size wx wx.drew := (Below.refl _ _).drew
     refine wp_region_stage 18 (fun w' => Below wx.heap.size wx w') (by kernel_rfl) ?_
     refine tkL (i := 0) (some 54) (.load 24 (.tmp 4)) 24 [18] (v := ?_) hS0 (fun w' hSw => ?_) ?_
     rotate_left
     · have g0 := (F_g.o.keep hSw).c 0 _ rfl; have g1 := (F_g.o.keep hSw).c 1 _ rfl; have g2 := (F_g.o.keep hSw).c 2 _ rfl; have y0 := (F_p.o.keep hSw).c 0 _ rfl; have y1 := (F_p.o.keep hSw).c 1 _ rfl; have y2 := (F_p.o.keep hSw).c 2 _ rfl; have j0 := (hSw.cell (p := ⟨s3, o3 + i, none⟩) F_w.o.2).trans F_w.o.1; have z0 := (hSw.cell (p := ⟨s4, o4 + i * 3, none⟩) F_z.o.2).trans F_z.o.1.1; have z1 := (hSw.cell (p := ⟨s4, o4 + i * 3 + 1, none⟩) F_z.o.2).trans F_z.o.1.2.1; have z2 := (hSw.cell (p := ⟨s4, o4 + i * 3 + 2, none⟩) F_z.o.2).trans F_z.o.1.2.2; have x0 := (F_c.o.keep hSw).c 0 _ rfl
       unfold bareOp; go_simp; try with_reducible rfl
     simp only [Act.put, sZ]
     refine tkP (i := 1) (some 55) (.move (.tmp 9)) 22 (fun _ => hS0) ?_
     simp only [Act.put, sZ]
     refine tkP (i := 2) (some 56) (.fieldAddr 49 (.tmp 12) 0) 0 (fun _ => hS0) ?_
     simp only [Act.put, sZ]
     refine tkL (i := 3) (some 57) (.load 22 (.tmp 56)) 22 [18] (v := ?_) hS0 (fun w' hSw => ?_) ?_
     rotate_left
     · have g0 := (F_g.o.keep hSw).c 0 _ rfl; have g1 := (F_g.o.keep hSw).c 1 _ rfl; have g2 := (F_g.o.keep hSw).c 2 _ rfl; have y0 := (F_p.o.keep hSw).c 0 _ rfl; have y1 := (F_p.o.keep hSw).c 1 _ rfl; have y2 := (F_p.o.keep hSw).c 2 _ rfl; have j0 := (hSw.cell (p := ⟨s3, o3 + i, none⟩) F_w.o.2).trans F_w.o.1; have z0 := (hSw.cell (p := ⟨s4, o4 + i * 3, none⟩) F_z.o.2).trans F_z.o.1.1; have z1 := (hSw.cell (p := ⟨s4, o4 + i * 3 + 1, none⟩) F_z.o.2).trans F_z.o.1.2.1; have z2 := (hSw.cell (p := ⟨s4, o4 + i * 3 + 2, none⟩) F_z.o.2).trans F_z.o.1.2.2; have x0 := (F_c.o.keep hSw).c 0 _ rfl
       unfold bareOp; go_simp; try with_reducible rfl
     simp only [Act.put, sZ]
     refine tkP (i := 4) (some 58) (.fieldAddr 29 (.tmp 7) 1) 0 (fun _ => hS0) ?_
     simp only [Act.put, sZ]
     refine tkL (i := 5) (some 59) (.load 26 (.tmp 58)) 26 [7, 8, 18] (v := ?_) hS0 (fun w' hSw => ?_) ?_
     rotate_left
     · have g0 := (F_g.o.keep hSw).c 0 _ rfl; have g1 := (F_g.o.keep hSw).c 1 _ rfl; have g2 := (F_g.o.keep hSw).c 2 _ rfl; have y0 := (F_p.o.keep hSw).c 0 _ rfl; have y1 := (F_p.o.keep hSw).c 1 _ rfl; have y2 := (F_p.o.keep hSw).c 2 _ rfl; have j0 := (hSw.cell (p := ⟨s3, o3 + i, none⟩) F_w.o.2).trans F_w.o.1; have z0 := (hSw.cell (p := ⟨s4, o4 + i * 3, none⟩) F_z.o.2).trans F_z.o.1.1; have z1 := (hSw.cell (p := ⟨s4, o4 + i * 3 + 1, none⟩) F_z.o.2).trans F_z.o.1.2.1; have z2 := (hSw.cell (p := ⟨s4, o4 + i * 3 + 2, none⟩) F_z.o.2).trans F_z.o.1.2.2; have x0 := (F_c.o.keep hSw).c 0 _ rfl
       unfold bareOp; go_simp; try with_reducible rfl
     simp only [Act.put, sZ]
     refine tkP (i := 6) (some 60) (.move (.tmp 11)) 3 (fun _ => hS0) ?_
     simp only [Act.put, sZ]
     refine tkP (i := 7) (some 61) (.indexAddr 26 (.tmp 59) (.tmp 60)) 0 (fun _ => hS0) ?_
     simp only [Act.put, sZ]
     refine tkL (i := 8) (some 62) (.load 22 (.tmp 61)) 22 [18] (v := ?_) hS0 (fun w' hSw => ?_) ?_
     rotate_left
     · have g0 := (F_g.o.keep hSw).c 0 _ rfl; have g1 := (F_g.o.keep hSw).c 1 _ rfl; have g2 := (F_g.o.keep hSw).c 2 _ rfl; have y0 := (F_p.o.keep hSw).c 0 _ rfl; have y1 := (F_p.o.keep hSw).c 1 _ rfl; have y2 := (F_p.o.keep hSw).c 2 _ rfl; have j0 := (hSw.cell (p := ⟨s3, o3 + i, none⟩) F_w.o.2).trans F_w.o.1; have z0 := (hSw.cell (p := ⟨s4, o4 + i * 3, none⟩) F_z.o.2).trans F_z.o.1.1; have z1 := (hSw.cell (p := ⟨s4, o4 + i * 3 + 1, none⟩) F_z.o.2).trans F_z.o.1.2.1; have z2 := (hSw.cell (p := ⟨s4, o4 + i * 3 + 2, none⟩) F_z.o.2).trans F_z.o.1.2.2; have x0 := (F_c.o.keep hSw).c 0 _ rfl
       unfold bareOp; go_simp; try with_reducible rfl
     simp only [Act.put, sZ]
     refine tkP (i := 9) (some 63) (.fieldAddr 29 (.tmp 7) 2) 0 (fun _ => hS0) ?_
     simp only [Act.put, sZ]
     refine tkL (i := 10) (some 64) (.load 27 (.tmp 63)) 27 [12, 13, 18] (v := ?_) hS0 (fun w' hSw => ?_) ?_
     rotate_left
     · have g0 := (F_g.o.keep hSw).c 0 _ rfl; have g1 := (F_g.o.keep hSw).c 1 _ rfl; have g2 := (F_g.o.keep hSw).c 2 _ rfl; have y0 := (F_p.o.keep hSw).c 0 _ rfl; have y1 := (F_p.o.keep hSw).c 1 _ rfl; have y2 := (F_p.o.keep hSw).c 2 _ rfl; have j0 := (hSw.cell (p := ⟨s3, o3 + i, none⟩) F_w.o.2).trans F_w.o.1; have z0 := (hSw.cell (p := ⟨s4, o4 + i * 3, none⟩) F_z.o.2).trans F_z.o.1.1; have z1 := (hSw.cell (p := ⟨s4, o4 + i * 3 + 1, none⟩) F_z.o.2).trans F_z.o.1.2.1; have z2 := (hSw.cell (p := ⟨s4, o4 + i * 3 + 2, none⟩) F_z.o.2).trans F_z.o.1.2.2; have x0 := (F_c.o.keep hSw).c 0 _ rfl
       unfold bareOp; go_simp; try with_reducible rfl
     simp only [Act.put, sZ]
     refine tkP (i := 11) (some 65) (.move (.tmp 11)) 3 (fun _ => hS0) ?_
     simp only [Act.put, sZ]
     refine tkP (i := 12) (some 66) (.indexAddr 27 (.tmp 64) (.tmp 65)) 0 (fun _ => hS0) ?_
     simp only [Act.put, sZ]
     refine tkL (i := 13) (some 67) (.load 53 (.tmp 66)) 53 [18] (v := ?_) hS0 (fun w' hSw => ?_) ?_
     rotate_left
     · have g0 := (F_g.o.keep hSw).c 0 _ rfl; have g1 := (F_g.o.keep hSw).c 1 _ rfl; have g2 := (F_g.o.keep hSw).c 2 _ rfl; have y0 := (F_p.o.keep hSw).c 0 _ rfl; have y1 := (F_p.o.keep hSw).c 1 _ rfl; have y2 := (F_p.o.keep hSw).c 2 _ rfl; have j0 := (hSw.cell (p := ⟨s3, o3 + i, none⟩) F_w.o.2).trans F_w.o.1; have z0 := (hSw.cell (p := ⟨s4, o4 + i * 3, none⟩) F_z.o.2).trans F_z.o.1.1; have z1 := (hSw.cell (p := ⟨s4, o4 + i * 3 + 1, none⟩) F_z.o.2).trans F_z.o.1.2.1; have z2 := (hSw.cell (p := ⟨s4, o4 + i * 3 + 2, none⟩) F_z.o.2).trans F_z.o.1.2.2; have x0 := (F_c.o.keep hSw).c 0 _ rfl
       unfold bareOp; go_simp; try with_reducible rfl
     simp only [Act.put, sZ]
     refine tkP (i := 14) (some 68) (.fieldAddr 29 (.tmp 7) 0) 0 (fun _ => hS0) ?_
     simp only [Act.put, sZ]
     refine tkL (i := 15) (some 69) (.load 3 (.tmp 68)) 3 [17, 18] (v := ?_) hS0 (fun w' hSw => ?_) ?_
     rotate_left
     · have g0 := (F_g.o.keep hSw).c 0 _ rfl; have g1 := (F_g.o.keep hSw).c 1 _ rfl; have g2 := (F_g.o.keep hSw).c 2 _ rfl; have y0 := (F_p.o.keep hSw).c 0 _ rfl; have y1 := (F_p.o.keep hSw).c 1 _ rfl; have y2 := (F_p.o.keep hSw).c 2 _ rfl; have j0 := (hSw.cell (p := ⟨s3, o3 + i, none⟩) F_w.o.2).trans F_w.o.1; have z0 := (hSw.cell (p := ⟨s4, o4 + i * 3, none⟩) F_z.o.2).trans F_z.o.1.1; have z1 := (hSw.cell (p := ⟨s4, o4 + i * 3 + 1, none⟩) F_z.o.2).trans F_z.o.1.2.1; have z2 := (hSw.cell (p := ⟨s4, o4 + i * 3 + 2, none⟩) F_z.o.2).trans F_z.o.1.2.2; have x0 := (F_c.o.keep hSw).c 0 _ rfl
       unfold bareOp; go_simp; try with_reducible rfl
     simp only [Act.put, sZ]
     refine tkP (i := 16) (some 70) (.move (.tmp 11)) 3 (fun _ => hS0) ?_
     simp only [Act.put, sZ]
     refine onl (i := 17) (some 71) (.call { callee := .value (.func 18), args := #[.tmp 69, .tmp 70], argTypes := #[3, 3] }) 56 (fun K hK => ?_)
     unfold bareOp
     refine OpW.out (wp_of_enter (run_call _ _ _ _ 18 Tryz.func18 (vs := #[.int .i64 t, .int .i64 (i : Int)]) (by simp only [List.map_toArray, List.map_cons, List.map_nil]; rfl) rfl (by kernel_rfl) (by kernel_rfl)) (tctx_any _ (by omega) (by omega) (by omega) (by omega)) ?_)
     rintro e w7 ⟨sx, rfl, hsx, hb7⟩
     refine ⟨_, rfl, ?_⟩
     have HSX := Lh hsx
     replace hS0 := hS0.trans (hb7.mono hS0.size)
     clear hb7 hsx
     refine hK.o _ _ (fun _ => hS0) ?_
     clear hK K
     try simp only [Act.put, sZ]
     refine onl (i := 18) (some 72) (.call { callee := .value (.func 46), args := #[.tmp 54, .tmp 55, .tmp 57, .tmp 62, .tmp 67, .tmp 71], argTypes := #[24, 22, 22, 22, 53, 56] }) 37 (fun K hK => ?_)
     unfold bareOp
     refine OpW.out (wp_of_enter (run_call _ _ _ _ 46 Tryz.func46 (vs := #[(.agg #[.int .u64 P, .int .u64 Q, .int .u64 G]), .int .u64 key, .int .u64 x, .int .u64 pw, .agg #[.int .u64 z.r, .int .u64 z.s, .int .u64 z.z], .slice (some ⟨sx, 0, none⟩) 2 2]) (by simp only [List.map_toArray, List.map_cons, List.map_nil]; rfl) rfl (by kernel_rfl) (by kernel_rfl)) (peqVerify_any _ ⟨HT.o.below (HBW.o.trans (hS0.mono HBW.o.size)), HSX.o, (by intro u hu; simp at hu; omega)⟩ hP hQ hG HKR.o.1 HX0.o HP0.o HZU.o.1.1 HZU.o.2.1.1 HZU.o.2.2.1 (by omega) HRET.o) ?_)
     rintro e w8 ⟨rfl, hb8⟩
     refine ⟨_, rfl, ?_⟩
     replace hS0 := hS0.trans (hb8.mono hS0.size)
     clear hb8 HSX
     refine hK.o _ _ lt8 ?_
     clear hK K
     try simp only [Act.put, sZ]
     refine tkP (i := 19) (some 53) (.move (.tmp 72)) 37 lt8 ?_
     simp only [Act.put, sZ]
     refine tkP (i := 20) (some 73) (.extract (.tmp 53) 0) 4 lt8 ?_
     simp only [Act.put, sZ]
     refine tkP (i := 21) (some 74) (.extract (.tmp 53) 1) 32 lt8 ?_
     simp only [Act.put, sZ]
     refine tkP (i := 22) (some 13) (.assign (.tmp 73)) 4 lt8 ?_
     simp only [Act.put, sZ]
     refine tkP (i := 23) (some 14) (.assign (.tmp 74)) 32 lt8 ?_
     simp only [Act.put, sZ]
     refine wpAnyB_done (by kernel_rfl) ?_ _
     have HK2 := Lh hS0
     clear hS0
     have HST := Lh (show ∀ b : Prop, (prfP P Q G key x pw z t (i : Int) → b) → prfP P Q G key (ps.getD i (0, 0)).1 (xs.getD i 0) (es.getD i Eq3.zero) t (i : Int) → b from fun b hb h => hb (by rw [HE1.o.1, HE1.o.2, HZD.o] at h; exact h))
     rcases HCS.o with ⟨rfl, rfl, hpr⟩ | ⟨rfl, rfl, hpr⟩ | ⟨hne, rfl, hpr⟩
     · have HPR := Lh hpr
       clear hpr
       go_wp2_with fail
       go_roundw
       case rel => exact ⟨i + 1, by omega, by go_num, (fun j hj => by
        by_cases hji : j < i
        · exact HA.o j hji
        · obtain rfl : j = i := by omega
          rw [HE1.o.1, HE1.o.2, HZD.o]
          exact HPR.o), F_g.o.keep HK2.o, F_p.o.keep HK2.o, HBW.o.trans (HK2.o.mono HBW.o.size)⟩
       case measure => simp [intOf] <;> omega
     · have HPR := Lh hpr
       clear hpr
       go_wp2_with fail
       go_ret
       exact ⟨ret_bool (HNO.o (fun h => HPR.o (by have := h.2.2.2 i (by have := HL2.o; omega); rw [HKY.o, HE1.o.1, HE1.o.2, HZD.o] at this; exact this))), HBW.o.trans (HK2.o.mono HBW.o.size)⟩
     · have HPR := Lh hpr
       clear hpr
       go_wp2_with fail
       go_ret
       exact ⟨ret_bool (HNO.o (fun h => HPR.o (by have := h.2.2.2 i (by have := HL2.o; omega); rw [HKY.o, HE1.o.1, HE1.o.2, HZD.o] at this; exact this))), HBW.o.trans (HK2.o.mono HBW.o.size)⟩
set_option maxHeartbeats 8000000 in
theorem rGood_any {P Q G t : Int} {a1 a2 a3 b3 : Option Addr} {n1 n2 n3 m3 c1 c2 c3 d3 : Nat} {ys xs : List Int} {ps : List (Int × Int)} {es : List Eq3} {v : Bool} (w : World) (hT : Tabs w) (hH : Has P Q G) (h1 : ShI .u64 w a1 n1 ys) (hy : belowS P ys = true) (hyu : ∀ x, x ∈ ys → U64 x)
    (h2 : ShS w a2 n2 ps) (hs : sumdS P ps = true) (hsu : ∀ q, q ∈ ps → U64 q.1 ∧ U64 q.2) (t0 : -9223372036854775808 ≤ t) (t1 : t ≤ 9223372036854775807) (h3 : ShI .u64 w a3 n3 xs) (u3 : ∀ x, x ∈ xs → U64 x) (h4 : ShQ w b3 m3 es) (u4 : ∀ x, x ∈ es → x.u) (hv : v = true ↔ accP P Q G ys ps t n3 m3 xs es) :
    Calls Tryz.prog 27 #[(.agg #[.int .u64 P, .int .u64 Q, .int .u64 G]), .slice a1 n1 c1, .slice a2 n2 c2, .agg #[.int .i64 t, .slice a3 n3 c3, .slice b3 m3 d3]] w fun e w' => e = .returned (.bool v) ∧ Below w.heap.size w w' := by
  have HT := Lh hT
  have HH := Lh hH
  have H1 := Lh h1
  have HY := Lh hy
  have HYU := Lh hyu
  have H2 := Lh h2
  have HS := Lh (sumdS_true hs)
  have HSU := Lh hsu
  have H3 := Lh h3
  have U3 := Lh u3
  have H4 := Lh h4
  have U4 := Lh u4
  have HV := Lh hv
  have HL1 := Lh h1.len
  have HL2 := Lh h2.len
  have hP : 0 ≤ P := by obtain ⟨p5, p3, hQ', pq, g2, gP⟩ := id hH; omega
  have hQ : 0 ≤ Q := by obtain ⟨p5, p3, hQ', pq, g2, gP⟩ := id hH; omega
  have hG : 0 ≤ G := by obtain ⟨p5, p3, hQ', pq, g2, gP⟩ := id hH; omega
  have HNO := Lh (show ¬ accP P Q G ys ps t n3 m3 xs es → false = v from fun h => by cases v; rfl; exact absurd (hv.1 rfl) h)
  clear hT hH h1 hy hyu h2 hs hsu h3 u3 h4 u4 hv
  have F_g := Lh (show Cl ((w.alloc (.cells #[.int .u64 P, .int .u64 Q, .int .u64 G] 24)).alloc (.cells #[.int .i64 t, .slice a3 n3 c3, .slice b3 m3 d3] 29)) (w.heap.size) [.int .u64 P, .int .u64 Q, .int .u64 G] from (Cl.at w [.int .u64 P, .int .u64 Q, .int .u64 G] 24 (w.heap.size) (by simp)).alloc _)
  have F_p := Lh (show Cl ((w.alloc (.cells #[.int .u64 P, .int .u64 Q, .int .u64 G] 24)).alloc (.cells #[.int .i64 t, .slice a3 n3 c3, .slice b3 m3 d3] 29)) (w.heap.size + 1) [.int .i64 t, .slice a3 n3 c3, .slice b3 m3 d3] from Cl.at (w.alloc (.cells #[.int .u64 P, .int .u64 Q, .int .u64 G] 24)) [.int .i64 t, .slice a3 n3 c3, .slice b3 m3 d3] 29 (w.heap.size + 1) (by simp))
  have HBW := Lh (show Below w.heap.size w ((w.alloc (.cells #[.int .u64 P, .int .u64 Q, .int .u64 G] 24)).alloc (.cells #[.int .i64 t, .slice a3 n3 c3, .slice b3 m3 d3] 29)) from ((Below.refl _ _).alloc (by simp <;> omega) _).alloc (by simp <;> omega) _)
  go_enter Tryz.func27, Tryz.ntmps27
  have q_g_0 := F_g.o.c 0 _ rfl
  have q_g_1 := F_g.o.c 1 _ rfl
  have q_g_2 := F_g.o.c 2 _ rfl
  have q_p_0 := F_p.o.c 0 _ rfl
  have q_p_1 := F_p.o.c 1 _ rfl
  have q_p_2 := F_p.o.c 2 _ rfl
  go_wp2_with fail
  clear q_g_0 q_g_1 q_g_2 q_p_0 q_p_1 q_p_2
  refine (rtnumbered_any _ t0 t1 rfl).mono ?_
  rintro e w1 ⟨rfl, hb1⟩
  replace F_g := Lh (F_g.o.keep hb1)
  replace F_p := Lh (F_p.o.keep hb1)
  replace HBW := Lh (HBW.o.trans (hb1.mono HBW.o.size))
  clear hb1
  obtain ⟨nt, hnt⟩ : ∃ nt, numT Q t = nt := ⟨_, rfl⟩
  have HNT := Lh hnt
  rw [hnt]
  clear hnt
  cases nt with
  | false =>
   have q_p_0 := F_p.o.c 0 _ rfl
   have q_p_1 := F_p.o.c 1 _ rfl
   have q_p_2 := F_p.o.c 2 _ rfl
   go_wp2_with fail
   clear q_p_0 q_p_1 q_p_2
   go_ret
   exact ⟨ret_bool (HNO.o (fun h => by have := h.1; rw [HNT.o] at this; cases this)), HBW.o⟩
  | true =>
   obtain ⟨tl, tu, tq⟩ := numT_true HNT.o
   by_cases e1 : n3 = n2
   case neg =>
    have f1 : ¬ ((n3 : Int) = (n2 : Int)) := by omega
    have q_p_0 := F_p.o.c 0 _ rfl
    have q_p_1 := F_p.o.c 1 _ rfl
    have q_p_2 := F_p.o.c 2 _ rfl
    go_wp2_with fail
    clear q_p_0 q_p_1 q_p_2
    go_ret
    exact ⟨ret_bool (HNO.o (fun h => by have := h.2.1; have := HL2.o; omega)), HBW.o⟩
   case pos =>
   subst e1
   by_cases e2 : m3 = n3
   case neg =>
    have f2 : ¬ ((m3 : Int) = (n3 : Int)) := by omega
    have q_p_0 := F_p.o.c 0 _ rfl
    have q_p_1 := F_p.o.c 1 _ rfl
    have q_p_2 := F_p.o.c 2 _ rfl
    go_wp2_with fail
    clear q_p_0 q_p_1 q_p_2
    go_ret
    exact ⟨ret_bool (HNO.o (fun h => by have := h.2.2.1; have := HL2.o; omega)), HBW.o⟩
   case pos =>
   subst e2
   have hm10 : m3 ≤ 10 := by have := HS.o.2.1; have := HL2.o; omega
   have hn18 : n1 ≤ 8 := by have := (belowS_true HY.o).2.1; have := HL1.o; omega
   obtain ⟨key, hkey⟩ : ∃ key, keyOfS P Q t ys ys.length = key := ⟨_, rfl⟩
   have HKY := Lh hkey
   have HKR := Lh (show 0 ≤ key ∧ key < P by rw [← hkey]; obtain ⟨p5, p3, hQ', pq, g2, gP⟩ := id HH.o; exact keyOfS_range (by omega) ys _)
   clear hkey
   have q_g_0 := F_g.o.c 0 _ rfl
   have q_g_1 := F_g.o.c 1 _ rfl
   have q_g_2 := F_g.o.c 2 _ rfl
   have q_p_0 := F_p.o.c 0 _ rfl
   have q_p_1 := F_p.o.c 1 _ rfl
   have q_p_2 := F_p.o.c 2 _ rfl
   go_wp2_with fail
   clear q_g_0 q_g_1 q_g_2 q_p_0 q_p_1 q_p_2
   refine (rkeyof_any _ HH.o (by omega) tq (H1.o.keep HBW.o) (by omega) (belowS_bd HY.o HYU.o) (show keyOfS P Q t ys n1 = key by rw [HL1.o]; exact HKY.o)).mono ?_
   rintro e w2 ⟨rfl, hb2⟩
   replace F_g := Lh (F_g.o.keep hb2)
   replace F_p := Lh (F_p.o.keep hb2)
   replace HBW := Lh (HBW.o.trans (hb2.mono HBW.o.size))
   clear hb2
   have q_p_0 := F_p.o.c 0 _ rfl
   have q_p_1 := F_p.o.c 1 _ rfl
   have q_p_2 := F_p.o.c 2 _ rfl
   go_wp2_with fail
   clear q_p_0 q_p_1 q_p_2
   go_loopw [10] (fun c10 wr => ∃ i : Nat, i ≤ m3 ∧ c10 = .int .i64 i ∧ Hid (∀ j, j < i → prfP P Q G key (ps.getD j (0, 0)).1 (xs.getD j 0) (es.getD j Eq3.zero) t (j : Int)) ∧ Hid (Cl wr w.heap.size [.int .u64 P, .int .u64 Q, .int .u64 G]) ∧ Hid (Cl wr (w.heap.size + 1) [.int .i64 t, .slice a3 m3 c3, .slice b3 m3 d3]) ∧ Hid (Below w.heap.size w wr)) (fun c10 _ => m3 - (intOf c10).toNat)
   case atStart => exact ⟨0, by omega, rfl, (fun j hj => by omega), F_g.o, F_p.o, HBW.o⟩
   case round =>
    clear F_g F_p HBW
    obtain ⟨i, hi, rfl, HA, F_g, F_p, HBW⟩ := hrel
    have hwi : IntKind.i64.wrap ((i : Int) + 1) = (i : Int) + 1 := IntWalk.i64_in _ (by omega)
    have hi0 : (0 : Int) ≤ (i : Int) := by omega
    by_cases hlt : i < m3
    case neg =>
     have hi2 : ¬ ((i : Int) < (m3 : Int)) := by omega
     go_wp2_with fail
     go_ret
     exact ⟨ret_bool (show true = v from (HV.o.2 ⟨HNT.o, HL2.o, HL2.o, fun j hj => by rw [HKY.o]; exact HA.o j (by have := HL2.o; omega)⟩).symm), HBW.o⟩
    case pos =>
     have hi2 : (i : Int) < (m3 : Int) := by omega
     have cS : Tryz.prog.cellsOf 49 = 2 := by kernel_rfl
     have cE : Tryz.prog.cellsOf 53 = 3 := by kernel_rfl
     obtain ⟨s2, o2, hsa, hsl, k0, k1⟩ := (H2.o.keep HBW.o).at i hlt
     obtain ⟨x, y, hxy⟩ : ∃ x y, ps.getD i (0, 0) = (x, y) := ⟨_, _, rfl⟩
     rw [hxy] at k0 k1
     obtain ⟨s3, o3, hsb, hsl3, hpw, -⟩ := (H3.o.keep HBW.o).at i hlt
     obtain ⟨pw, hpe⟩ : ∃ pw, xs.getD i 0 = pw := ⟨_, rfl⟩
     rw [hpe] at hpw
     obtain ⟨s4, o4, z, hsc, hze, hsl4, q0, q1, q2⟩ := (H4.o.keep HBW.o).at i hlt
     have HZD := Lh (show es.getD i Eq3.zero = z by rw [List.getD_eq_getElem?_getD, hze]; rfl)
     have HX0 := Lh (show 0 ≤ x by
      have hm : (x, y) ∈ ps := by rw [← hxy, List.getD_eq_getElem?_getD, List.getElem?_eq_getElem (by have := HL2.o; omega)]; exact List.getElem_mem _
      exact (HSU.o _ hm).1.1)
     have HP0 := Lh (show 0 ≤ pw by
      have hm : pw ∈ xs := by rw [← hpe, List.getD_eq_getElem?_getD, List.getElem?_eq_getElem (by have := H3.o.len; omega)]; exact List.getElem_mem _
      exact (U3.o _ hm).1)
     have HZU := Lh (show z.u from U4.o z (List.mem_of_getElem? hze))
     obtain ⟨v1, e1, hret, hcase⟩ := prf_ret P Q G key x pw z t (i : Int)
     have HRET := Lh hret
     have HCS := Lh hcase
     have HE1 := Lh (And.intro hxy hpe)
     clear hxy hpe hze hret hcase
     subst hsa hsb hsc
     have F_w := Lh (show wr.cell? ⟨s3, o3 + i, none⟩ = some (.int .u64 pw) ∧ s3 < wr.heap.size from ⟨hpw, hsl3⟩)
     have F_z := Lh (show (wr.cell? ⟨s4, o4 + i * 3, none⟩ = some (.int .u64 z.r) ∧ wr.cell? ⟨s4, o4 + i * 3 + 1, none⟩ = some (.int .u64 z.s) ∧ wr.cell? ⟨s4, o4 + i * 3 + 2, none⟩ = some (.int .u64 z.z)) ∧ s4 < wr.heap.size from ⟨⟨q0, q1, q2⟩, hsl4⟩)
     have F_s := Lh (show (wr.cell? ⟨s2, o2 + i * 2, none⟩ = some (.int .u64 x) ∧ wr.cell? ⟨s2, o2 + i * 2 + 1, none⟩ = some (.int .u64 y)) ∧ s2 < wr.heap.size from ⟨⟨k0, k1⟩, hsl⟩)
     clear hpw q0 q1 q2
     clear k0 k1
     have HK := Lh (Below.refl wr.heap.size wr)
     obtain ⟨wx, hwx⟩ : ∃ wx, wx = wr := ⟨_, rfl⟩
     rw [← hwx]
     replace HK := Lh (show Below wr.heap.size wr wx by rw [hwx]; exact HK.o)
     clear hwx
     go_wp2_with fail
     replace F_g := Lh (F_g.o.keep HK.o)
     replace F_p := Lh (F_p.o.keep HK.o)
     replace F_w := Lh (show wx.cell? ⟨s3, o3 + i, none⟩ = some (.int .u64 pw) ∧ s3 < wx.heap.size from ⟨(HK.o.cell (p := ⟨s3, o3 + i, none⟩) F_w.o.2).trans F_w.o.1, Nat.lt_of_lt_of_le F_w.o.2 HK.o.size⟩)
     replace F_z := Lh (show (wx.cell? ⟨s4, o4 + i * 3, none⟩ = some (.int .u64 z.r) ∧ wx.cell? ⟨s4, o4 + i * 3 + 1, none⟩ = some (.int .u64 z.s) ∧ wx.cell? ⟨s4, o4 + i * 3 + 2, none⟩ = some (.int .u64 z.z)) ∧ s4 < wx.heap.size from ⟨⟨(HK.o.cell (p := ⟨s4, o4 + i * 3, none⟩) F_z.o.2).trans F_z.o.1.1, (HK.o.cell (p := ⟨s4, o4 + i * 3 + 1, none⟩) F_z.o.2).trans F_z.o.1.2.1, (HK.o.cell (p := ⟨s4, o4 + i * 3 + 2, none⟩) F_z.o.2).trans F_z.o.1.2.2⟩, Nat.lt_of_lt_of_le F_z.o.2 HK.o.size⟩)
     replace F_s := Lh (show (wx.cell? ⟨s2, o2 + i * 2, none⟩ = some (.int .u64 x) ∧ wx.cell? ⟨s2, o2 + i * 2 + 1, none⟩ = some (.int .u64 y)) ∧ s2 < wx.heap.size from ⟨⟨(HK.o.cell (p := ⟨s2, o2 + i * 2, none⟩) F_s.o.2).trans F_s.o.1.1, (HK.o.cell (p := ⟨s2, o2 + i * 2 + 1, none⟩) F_s.o.2).trans F_s.o.1.2⟩, Nat.lt_of_lt_of_le F_s.o.2 HK.o.size⟩)
     replace HBW := Lh (HBW.o.trans (HK.o.mono HBW.o.size))
     clear HK
     have hS0 : Below wx.heap.size wx wx.drew := (Below.refl _ _).drew
     refine wp_region_stage 21 (fun w' => Below wx.heap.size wx w') (by kernel_rfl) ?_
     refine tkL (i := 0) (some 46) (.load 24 (.tmp 4)) 24 [21] (v := ?_) hS0 (fun w' hSw => ?_) ?_
     rotate_left
     · have g0 := (F_g.o.keep hSw).c 0 _ rfl; have g1 := (F_g.o.keep hSw).c 1 _ rfl; have g2 := (F_g.o.keep hSw).c 2 _ rfl; have y0 := (F_p.o.keep hSw).c 0 _ rfl; have y1 := (F_p.o.keep hSw).c 1 _ rfl; have y2 := (F_p.o.keep hSw).c 2 _ rfl; have j0 := (hSw.cell (p := ⟨s3, o3 + i, none⟩) F_w.o.2).trans F_w.o.1; have z0 := (hSw.cell (p := ⟨s4, o4 + i * 3, none⟩) F_z.o.2).trans F_z.o.1.1; have z1 := (hSw.cell (p := ⟨s4, o4 + i * 3 + 1, none⟩) F_z.o.2).trans F_z.o.1.2.1; have z2 := (hSw.cell (p := ⟨s4, o4 + i * 3 + 2, none⟩) F_z.o.2).trans F_z.o.1.2.2; have x0 := (hSw.cell (p := ⟨s2, o2 + i * 2, none⟩) F_s.o.2).trans F_s.o.1.1
       unfold bareOp; go_simp; try with_reducible rfl
     simp only [Act.put, sZ]
     refine tkP (i := 1) (some 47) (.move (.tmp 9)) 22 (fun _ => hS0) ?_
     simp only [Act.put, sZ]
     refine tkP (i := 2) (some 48) (.move (.tmp 2)) 25 (fun _ => hS0) ?_
     simp only [Act.put, sZ]
     refine tkP (i := 3) (some 49) (.move (.tmp 10)) 3 (fun _ => hS0) ?_
     simp only [Act.put, sZ]
     refine tkP (i := 4) (some 50) (.indexAddr 25 (.tmp 48) (.tmp 49)) 0 (fun _ => hS0) ?_
     simp only [Act.put, sZ]
     refine tkP (i := 5) (some 51) (.fieldAddr 49 (.tmp 50) 0) 0 (fun _ => hS0) ?_
     simp only [Act.put, sZ]
     refine tkL (i := 6) (some 52) (.load 22 (.tmp 51)) 22 [21] (v := ?_) hS0 (fun w' hSw => ?_) ?_
     rotate_left
     · have g0 := (F_g.o.keep hSw).c 0 _ rfl; have g1 := (F_g.o.keep hSw).c 1 _ rfl; have g2 := (F_g.o.keep hSw).c 2 _ rfl; have y0 := (F_p.o.keep hSw).c 0 _ rfl; have y1 := (F_p.o.keep hSw).c 1 _ rfl; have y2 := (F_p.o.keep hSw).c 2 _ rfl; have j0 := (hSw.cell (p := ⟨s3, o3 + i, none⟩) F_w.o.2).trans F_w.o.1; have z0 := (hSw.cell (p := ⟨s4, o4 + i * 3, none⟩) F_z.o.2).trans F_z.o.1.1; have z1 := (hSw.cell (p := ⟨s4, o4 + i * 3 + 1, none⟩) F_z.o.2).trans F_z.o.1.2.1; have z2 := (hSw.cell (p := ⟨s4, o4 + i * 3 + 2, none⟩) F_z.o.2).trans F_z.o.1.2.2; have x0 := (hSw.cell (p := ⟨s2, o2 + i * 2, none⟩) F_s.o.2).trans F_s.o.1.1
       unfold bareOp; go_simp; try with_reducible rfl
     simp only [Act.put, sZ]
     refine tkP (i := 7) (some 53) (.fieldAddr 29 (.tmp 7) 1) 0 (fun _ => hS0) ?_
     simp only [Act.put, sZ]
     refine tkL (i := 8) (some 54) (.load 26 (.tmp 53)) 26 [10, 11, 21] (v := ?_) hS0 (fun w' hSw => ?_) ?_
     rotate_left
     · have g0 := (F_g.o.keep hSw).c 0 _ rfl; have g1 := (F_g.o.keep hSw).c 1 _ rfl; have g2 := (F_g.o.keep hSw).c 2 _ rfl; have y0 := (F_p.o.keep hSw).c 0 _ rfl; have y1 := (F_p.o.keep hSw).c 1 _ rfl; have y2 := (F_p.o.keep hSw).c 2 _ rfl; have j0 := (hSw.cell (p := ⟨s3, o3 + i, none⟩) F_w.o.2).trans F_w.o.1; have z0 := (hSw.cell (p := ⟨s4, o4 + i * 3, none⟩) F_z.o.2).trans F_z.o.1.1; have z1 := (hSw.cell (p := ⟨s4, o4 + i * 3 + 1, none⟩) F_z.o.2).trans F_z.o.1.2.1; have z2 := (hSw.cell (p := ⟨s4, o4 + i * 3 + 2, none⟩) F_z.o.2).trans F_z.o.1.2.2; have x0 := (hSw.cell (p := ⟨s2, o2 + i * 2, none⟩) F_s.o.2).trans F_s.o.1.1
       unfold bareOp; go_simp; try with_reducible rfl
     simp only [Act.put, sZ]
     refine tkP (i := 9) (some 55) (.move (.tmp 10)) 3 (fun _ => hS0) ?_
     simp only [Act.put, sZ]
     refine tkP (i := 10) (some 56) (.indexAddr 26 (.tmp 54) (.tmp 55)) 0 (fun _ => hS0) ?_
     simp only [Act.put, sZ]
     refine tkL (i := 11) (some 57) (.load 22 (.tmp 56)) 22 [21] (v := ?_) hS0 (fun w' hSw => ?_) ?_
     rotate_left
     · have g0 := (F_g.o.keep hSw).c 0 _ rfl; have g1 := (F_g.o.keep hSw).c 1 _ rfl; have g2 := (F_g.o.keep hSw).c 2 _ rfl; have y0 := (F_p.o.keep hSw).c 0 _ rfl; have y1 := (F_p.o.keep hSw).c 1 _ rfl; have y2 := (F_p.o.keep hSw).c 2 _ rfl; have j0 := (hSw.cell (p := ⟨s3, o3 + i, none⟩) F_w.o.2).trans F_w.o.1; have z0 := (hSw.cell (p := ⟨s4, o4 + i * 3, none⟩) F_z.o.2).trans F_z.o.1.1; have z1 := (hSw.cell (p := ⟨s4, o4 + i * 3 + 1, none⟩) F_z.o.2).trans F_z.o.1.2.1; have z2 := (hSw.cell (p := ⟨s4, o4 + i * 3 + 2, none⟩) F_z.o.2).trans F_z.o.1.2.2; have x0 := (hSw.cell (p := ⟨s2, o2 + i * 2, none⟩) F_s.o.2).trans F_s.o.1.1
       unfold bareOp; go_simp; try with_reducible rfl
     simp only [Act.put, sZ]
     refine tkP (i := 12) (some 58) (.fieldAddr 29 (.tmp 7) 2) 0 (fun _ => hS0) ?_
     simp only [Act.put, sZ]
     refine tkL (i := 13) (some 59) (.load 27 (.tmp 58)) 27 [15, 16, 21] (v := ?_) hS0 (fun w' hSw => ?_) ?_
     rotate_left
     · have g0 := (F_g.o.keep hSw).c 0 _ rfl; have g1 := (F_g.o.keep hSw).c 1 _ rfl; have g2 := (F_g.o.keep hSw).c 2 _ rfl; have y0 := (F_p.o.keep hSw).c 0 _ rfl; have y1 := (F_p.o.keep hSw).c 1 _ rfl; have y2 := (F_p.o.keep hSw).c 2 _ rfl; have j0 := (hSw.cell (p := ⟨s3, o3 + i, none⟩) F_w.o.2).trans F_w.o.1; have z0 := (hSw.cell (p := ⟨s4, o4 + i * 3, none⟩) F_z.o.2).trans F_z.o.1.1; have z1 := (hSw.cell (p := ⟨s4, o4 + i * 3 + 1, none⟩) F_z.o.2).trans F_z.o.1.2.1; have z2 := (hSw.cell (p := ⟨s4, o4 + i * 3 + 2, none⟩) F_z.o.2).trans F_z.o.1.2.2; have x0 := (hSw.cell (p := ⟨s2, o2 + i * 2, none⟩) F_s.o.2).trans F_s.o.1.1
       unfold bareOp; go_simp; try with_reducible rfl
     simp only [Act.put, sZ]
     refine tkP (i := 14) (some 60) (.move (.tmp 10)) 3 (fun _ => hS0) ?_
     simp only [Act.put, sZ]
     refine tkP (i := 15) (some 61) (.indexAddr 27 (.tmp 59) (.tmp 60)) 0 (fun _ => hS0) ?_
     simp only [Act.put, sZ]
     refine tkL (i := 16) (some 62) (.load 53 (.tmp 61)) 53 [21] (v := ?_) hS0 (fun w' hSw => ?_) ?_
     rotate_left
     · have g0 := (F_g.o.keep hSw).c 0 _ rfl; have g1 := (F_g.o.keep hSw).c 1 _ rfl; have g2 := (F_g.o.keep hSw).c 2 _ rfl; have y0 := (F_p.o.keep hSw).c 0 _ rfl; have y1 := (F_p.o.keep hSw).c 1 _ rfl; have y2 := (F_p.o.keep hSw).c 2 _ rfl; have j0 := (hSw.cell (p := ⟨s3, o3 + i, none⟩) F_w.o.2).trans F_w.o.1; have z0 := (hSw.cell (p := ⟨s4, o4 + i * 3, none⟩) F_z.o.2).trans F_z.o.1.1; have z1 := (hSw.cell (p := ⟨s4, o4 + i * 3 + 1, none⟩) F_z.o.2).trans F_z.o.1.2.1; have z2 := (hSw.cell (p := ⟨s4, o4 + i * 3 + 2, none⟩) F_z.o.2).trans F_z.o.1.2.2; have x0 := (hSw.cell (p := ⟨s2, o2 + i * 2, none⟩) F_s.o.2).trans F_s.o.1.1
       unfold bareOp; go_simp; try with_reducible rfl
     simp only [Act.put, sZ]
     refine tkP (i := 17) (some 63) (.fieldAddr 29 (.tmp 7) 0) 0 (fun _ => hS0) ?_
     simp only [Act.put, sZ]
     refine tkL (i := 18) (some 64) (.load 3 (.tmp 63)) 3 [20, 21] (v := ?_) hS0 (fun w' hSw => ?_) ?_
     rotate_left
     · have g0 := (F_g.o.keep hSw).c 0 _ rfl; have g1 := (F_g.o.keep hSw).c 1 _ rfl; have g2 := (F_g.o.keep hSw).c 2 _ rfl; have y0 := (F_p.o.keep hSw).c 0 _ rfl; have y1 := (F_p.o.keep hSw).c 1 _ rfl; have y2 := (F_p.o.keep hSw).c 2 _ rfl; have j0 := (hSw.cell (p := ⟨s3, o3 + i, none⟩) F_w.o.2).trans F_w.o.1; have z0 := (hSw.cell (p := ⟨s4, o4 + i * 3, none⟩) F_z.o.2).trans F_z.o.1.1; have z1 := (hSw.cell (p := ⟨s4, o4 + i * 3 + 1, none⟩) F_z.o.2).trans F_z.o.1.2.1; have z2 := (hSw.cell (p := ⟨s4, o4 + i * 3 + 2, none⟩) F_z.o.2).trans F_z.o.1.2.2; have x0 := (hSw.cell (p := ⟨s2, o2 + i * 2, none⟩) F_s.o.2).trans F_s.o.1.1
       unfold bareOp; go_simp; try with_reducible rfl
     simp only [Act.put, sZ]
     refine tkP (i := 19) (some 65) (.move (.tmp 10)) 3 (fun _ => hS0) ?_
     simp only [Act.put, sZ]
     refine onl (i := 20) (some 66) (.call { callee := .value (.func 44), args := #[.tmp 64, .tmp 65], argTypes := #[3, 3] }) 56 (fun K hK => ?_)
     unfold bareOp
     refine OpW.out (wp_of_enter (run_call _ _ _ _ 44 Tryz.func44 (vs := #[.int .i64 t, .int .i64 (i : Int)]) (by simp only [List.map_toArray, List.map_cons, List.map_nil]; rfl) rfl (by kernel_rfl) (by kernel_rfl)) (rctx_any _ (by omega) (by omega) (by omega) (by omega)) ?_)
     rintro e w7 ⟨sx, rfl, hsx, hb7⟩
     refine ⟨_, rfl, ?_⟩
     have HSX := Lh hsx
     replace hS0 := hS0.trans (hb7.mono hS0.size)
     clear hb7 hsx
     refine hK.o _ _ (fun _ => hS0) ?_
     clear hK K
     try simp only [Act.put, sZ]
     refine onl (i := 21) (some 67) (.call { callee := .value (.func 48), args := #[.tmp 46, .tmp 47, .tmp 52, .tmp 57, .tmp 62, .tmp 66], argTypes := #[24, 22, 22, 22, 53, 56] }) 39 (fun K hK => ?_)
     unfold bareOp
     refine OpW.out (wp_of_enter (run_call _ _ _ _ 48 Tryz.func48 (vs := #[(.agg #[.int .u64 P, .int .u64 Q, .int .u64 G]), .int .u64 key, .int .u64 x, .int .u64 pw, .agg #[.int .u64 z.r, .int .u64 z.s, .int .u64 z.z], .slice (some ⟨sx, 0, none⟩) 2 2]) (by simp only [List.map_toArray, List.map_cons, List.map_nil]; rfl) rfl (by kernel_rfl) (by kernel_rfl)) (reqVerify_any _ ⟨HT.o.below (HBW.o.trans (hS0.mono HBW.o.size)), HSX.o, (by intro u hu; simp at hu; omega)⟩ hP hQ hG HKR.o.1 HX0.o HP0.o HZU.o.1.1 HZU.o.2.1.1 HZU.o.2.2.1 (by omega) HRET.o) ?_)
     rintro e w8 ⟨rfl, hb8⟩
     refine ⟨_, rfl, ?_⟩
     replace hS0 := hS0.trans (hb8.mono hS0.size)
     clear hb8 HSX
     refine hK.o _ _ lt8 ?_
     clear hK K
     try simp only [Act.put, sZ]
     refine tkP (i := 22) (some 45) (.move (.tmp 67)) 39 lt8 ?_
     simp only [Act.put, sZ]
     refine tkP (i := 23) (some 68) (.extract (.tmp 45) 0) 4 lt8 ?_
     simp only [Act.put, sZ]
     refine tkP (i := 24) (some 69) (.extract (.tmp 45) 1) 3 lt8 ?_
     simp only [Act.put, sZ]
     refine tkP (i := 25) (some 11) (.assign (.tmp 68)) 4 lt8 ?_
     simp only [Act.put, sZ]
     refine tkP (i := 26) (some 12) (.assign (.tmp 69)) 3 lt8 ?_
     simp only [Act.put, sZ]
     refine wpAnyB_done (by kernel_rfl) ?_ _
     have HK2 := Lh hS0
     clear hS0
     have HST := Lh (show ∀ b : Prop, (prfP P Q G key x pw z t (i : Int) → b) → prfP P Q G key (ps.getD i (0, 0)).1 (xs.getD i 0) (es.getD i Eq3.zero) t (i : Int) → b from fun b hb h => hb (by rw [HE1.o.1, HE1.o.2, HZD.o] at h; exact h))
     rcases HCS.o with ⟨rfl, rfl, hpr⟩ | ⟨rfl, rfl, hpr⟩ | ⟨hne, rfl, hpr⟩
     · have HPR := Lh hpr
       clear hpr
       go_wp2_with fail
       go_roundw
       case rel => exact ⟨i + 1, by omega, by go_num, (fun j hj => by
        by_cases hji : j < i
        · exact HA.o j hji
        · obtain rfl : j = i := by omega
          rw [HE1.o.1, HE1.o.2, HZD.o]
          exact HPR.o), F_g.o.keep HK2.o, F_p.o.keep HK2.o, HBW.o.trans (HK2.o.mono HBW.o.size)⟩
       case measure => simp [intOf] <;> omega
     · have HPR := Lh hpr
       clear hpr
       go_wp2_with fail
       go_ret
       exact ⟨ret_bool (HNO.o (fun h => HPR.o (by have := h.2.2.2 i (by have := HL2.o; omega); rw [HKY.o, HE1.o.1, HE1.o.2, HZD.o] at this; exact this))), HBW.o.trans (HK2.o.mono HBW.o.size)⟩
     · have HPR := Lh hpr
       clear hpr
       go_wp2_with fail
       go_ret
       exact ⟨ret_bool (HNO.o (fun h => HPR.o (by have := h.2.2.2 i (by have := HL2.o; omega); rw [HKY.o, HE1.o.1, HE1.o.2, HZD.o] at this; exact this))), HBW.o.trans (HK2.o.mono HBW.o.size)⟩
end Go.Proofs.YtkjkdfhjfnoalaaGreatDoor
