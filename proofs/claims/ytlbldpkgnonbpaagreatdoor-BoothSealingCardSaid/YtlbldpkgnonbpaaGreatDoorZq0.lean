/- The reference's revealed, Is, Matches. -/
import Derived.Test.YtlbldpkgnonbpaaGreatDoorZqZ
import Derived.Test.YtlbldpkgnonbpaaGreatDoorZqT
import Derived.Test.YtlbldpkgnonbpaaGreatDoorZqV
import Derived.Test.YtlbldpkgnonbpaaGreatDoorZqA
import Derived.Test.YtlbldpkgnonbpaaGreatDoorZqB
set_option linter.unusedSimpArgs false
set_option linter.unusedVariables false
set_option maxRecDepth 100000
namespace Go.Proofs.YtlbldpkgnonbpaaGreatDoor
open Go Go.RowKit Num Sha
theorem run_neq_sealed (ρ : Operand → Value) (w : World) (dst : Option Tmp) (ty : TypeId) (x y : Operand) {a b c d : Int} {q : Bool} (h1 : ρ x = .agg #[.int .u64 a, .int .u64 b]) (h2 : ρ y = .agg #[.int .u64 c, .int .u64 d]) (hq : q = true ↔ (a, b) = (c, d)) :
    (execOp ρ (bareOp dst (.binOp .neq 75 x y 75) ty)).run Tryz.prog w = .ok (.value (.bool (!q))) w := by
  have hq' : q = (a == c && b == d) := by
   rw [Bool.eq_iff_iff, hq]
   simp
  subst hq'
  unfold bareOp
  by_cases e1 : a = c
  · subst e1
    by_cases e2 : b = d
    · subst e2; go_simp
    · have f2 : (b == d) = false := beq_eq_false_iff_ne.2 e2
      go_simp
  · have f1 : (a == c) = false := beq_eq_false_iff_ne.2 e1
    go_simp
set_option maxHeartbeats 16000000 in
theorem rrevealed_any {P Q G : Int} {n : Nat} {R : Rv} {v : Bool} (w : World) (hR : RvIn w R) (hrn : R.n ≤ 1000) (hn : n ≤ 1000) (hrm : R.m ≤ 1000) (hv : v = true ↔ rangeP Q n R) :
    Calls Tryz.prog 39 #[(.agg #[.int .u64 P, .int .u64 Q, .int .u64 G]), .int .i64 (n : Int), R.v] w fun e w' => e = .returned (.bool v) ∧ Below w.heap.size w w' := by
  have HR := Lh hR
  have HV := Lh hv
  have HL2 := Lh hR.h2.len
  clear hR hv
  unfold Rv.v
  have F_g := Lh (show Cl ((w.alloc (.cells #[.int .u64 P, .int .u64 Q, .int .u64 G] 24)).alloc (.cells #[.slice R.a R.n R.c, .slice R.b R.m R.d] 36)) (w.heap.size) [.int .u64 P, .int .u64 Q, .int .u64 G] from (Cl.at w [.int .u64 P, .int .u64 Q, .int .u64 G] 24 (w.heap.size) (by simp)).alloc _)
  have F_r := Lh (show Cl ((w.alloc (.cells #[.int .u64 P, .int .u64 Q, .int .u64 G] 24)).alloc (.cells #[.slice R.a R.n R.c, .slice R.b R.m R.d] 36)) (w.heap.size + 1) [.slice R.a R.n R.c, .slice R.b R.m R.d] from Cl.at (w.alloc (.cells #[.int .u64 P, .int .u64 Q, .int .u64 G] 24)) [.slice R.a R.n R.c, .slice R.b R.m R.d] 36 (w.heap.size + 1) (by simp))
  have HBW := Lh (show Below w.heap.size w ((w.alloc (.cells #[.int .u64 P, .int .u64 Q, .int .u64 G] 24)).alloc (.cells #[.slice R.a R.n R.c, .slice R.b R.m R.d] 36)) from ((Below.refl _ _).alloc (by simp <;> omega) _).alloc (by simp <;> omega) _)
  go_enter Tryz.func39, Tryz.ntmps39
  go_wp2_with fail
  go_loopw [7] (fun c7 wr => ∃ i : Nat, i ≤ R.m ∧ c7 = .int .i64 i ∧ Hid (∀ j, j < i → R.ns.getD j 0 < Q) ∧ Hid (Cl wr w.heap.size [.int .u64 P, .int .u64 Q, .int .u64 G]) ∧ Hid (Cl wr (w.heap.size + 1) [.slice R.a R.n R.c, .slice R.b R.m R.d]) ∧ Hid (Below w.heap.size w wr)) (fun c7 _ => R.m - (intOf c7).toNat)
  case atStart => exact ⟨0, by omega, rfl, Lh (fun j hj => by omega), F_g.o, F_r.o, HBW.o⟩
  case round =>
   clear F_g F_r HBW
   obtain ⟨i, hi, rfl, HPR, F_g, F_r, HBW⟩ := hrel
   have hwi : IntKind.i64.wrap ((i : Int) + 1) = (i : Int) + 1 := IntWalk.i64_in _ (by omega)
   have r0 := F_r.o.c 0 _ rfl
   have r1 := F_r.o.c 1 _ rfl
   by_cases hlt : i < R.m
   case pos =>
    have hd : decide ((i : Int) < (R.m : Int)) = true := decide_eq_true (by omega)
    have hi0 : (0 : Int) ≤ (i : Int) := by omega
    have hi2 : (i : Int) < (R.m : Int) := by omega
    obtain ⟨s1, o1, hsa, hsl, e0, -⟩ := (HR.o.h2.keep HBW.o).at i hlt
    rw [hsa] at r1
    have HSA := Lh hsa
    obtain ⟨x, hx⟩ : ∃ x, R.ns.getD i 0 = x := ⟨_, rfl⟩
    rw [hx] at e0
    have HX := Lh hx
    have HMX := Lh (show x ∈ R.ns by rw [← hx, List.getD_eq_getElem?_getD, List.getElem?_eq_getElem (by rw [← HL2.o]; exact hlt)]; exact List.getElem_mem _)
    clear hx hsa
    have g1 := F_g.o.c 1 _ rfl
    by_cases hxq : x < Q
    case neg =>
     have hd2 : decide (Q ≤ x) = true := by simp; omega
     have HZ := Lh (show v = false from boolP HV.o (fun h => h.2.1 ⟨x, HMX.o, by omega⟩))
     go_wp2_with fail
     go_quiet (fail)
     go_wp2_with fail
     go_ret
     exact ⟨by rw [HZ.o]; rfl, below_drewN HBW.o _⟩
    case pos =>
     have hd2 : decide (Q ≤ x) = false := by simp; omega
     have HPN := Lh (show ∀ j, j < i + 1 → R.ns.getD j 0 < Q from fun j hj => by
      by_cases e : j < i
      · exact HPR.o j e
      · obtain rfl : j = i := by omega
        rw [HX.o]; exact hxq)
     go_wp2_with fail
     go_quiet (fail)
     go_wp2_with fail
     go_roundw
     case rel => exact ⟨i + 1, by omega, by go_num, HPN.o, F_g.o.keep (below_drewN (Below.refl _ _) _), F_r.o.keep (below_drewN (Below.refl _ _) _), below_drewN HBW.o _⟩
     case measure => simp [intOf] <;> omega
   case neg =>
    have hd : decide ((i : Int) < (R.m : Int)) = false := decide_eq_false (by omega)
    have HQ := Lh (show ¬ ∃ x, x ∈ R.ns ∧ Q ≤ x from fun ⟨x, hx, hq⟩ => by
     obtain ⟨j, hj, rfl⟩ := List.getElem_of_mem hx
     have := HPR.o j (by have := HL2.o; omega)
     rw [List.getD_eq_getElem?_getD, List.getElem?_eq_getElem hj] at this
     have h2 : R.ns[j] < Q := this
     omega)
    by_cases hmn : R.m = n
    case neg =>
     have hne : ¬ ((R.m : Int) = (n : Int)) := by omega
     have hd3 : ((R.m : Int) == (n : Int)) = false := beq_eq_false_iff_ne.2 hne
     have HZ := Lh (show v = false from boolP HV.o (fun h => hmn h.1))
     go_wp2_with fail
     go_ret
     exact ⟨by rw [HZ.o]; rfl, HBW.o⟩
    case pos =>
     have hd3 : ((R.m : Int) == (n : Int)) = true := beq_iff_eq.2 (by omega)
     have HMN := Lh hmn
     clear hmn
     go_wp2_with fail
     refine (rMarks_any _ (HR.o.h1.keep HBW.o) (by omega)).mono ?_
     rintro e w3 ⟨rfl, hb3⟩
     have HB3 := Lh (HBW.o.trans (hb3.mono HBW.o.size))
     clear hb3
     have HZ := Lh (show v = markedS (n : Int) R.ms by
      rw [Bool.eq_iff_iff, HV.o]
      exact ⟨fun h => h.2.2, fun h => ⟨HMN.o, HQ.o, h⟩⟩)
     go_wp2_with fail
     go_ret
     exact ⟨by rw [HZ.o]; rfl, HB3.o⟩
set_option maxHeartbeats 16000000 in
theorem rIs_any {P Q G y : Int} {n : Nat} {V : Vt} {R : Rv} {v : Bool} (w : World) (hH : Has P Q G) (y0 : 0 ≤ y) (yP : y < P) (hn : n ≤ 10) (hV : VtIn w V) (hR : RvIn w R) (hrg : rangeP Q n R) (hrn : R.n ≤ 1000) (hv : v = true ↔ matchP P G y n V R) :
    Calls Tryz.prog 40 #[(.agg #[.int .u64 P, .int .u64 Q, .int .u64 G]), .int .u64 y, .int .i64 (n : Int), V.v, R.v] w fun e w' => e = .returned (.bool v) ∧ Below w.heap.size w w' := by
  have HH := Lh hH
  have HV := Lh hV
  have HR := Lh hR
  have HRG := Lh hrg
  have HVV := Lh hv
  have HL2 := Lh hR.h2.len
  have HRQ := Lh (show 5 ≤ P ∧ P < 2147483648 ∧ 2 ≤ Q ∧ Q < 2147483648 ∧ 0 ≤ G by obtain ⟨p5, p3, hQ', pq, g2, gP⟩ := id hH; omega)
  clear hH hV hR hrg hv
  unfold Vt.v Rv.v
  have F_g := Lh (show Cl (((w.alloc (.cells #[.int .u64 P, .int .u64 Q, .int .u64 G] 24)).alloc (.cells V.ca 33)).alloc (.cells #[.slice R.a R.n R.c, .slice R.b R.m R.d] 36)) (w.heap.size) [.int .u64 P, .int .u64 Q, .int .u64 G] from ((Cl.at w [.int .u64 P, .int .u64 Q, .int .u64 G] 24 (w.heap.size) (by simp)).alloc _).alloc _)
  have F_v := Lh (show Cl (((w.alloc (.cells #[.int .u64 P, .int .u64 Q, .int .u64 G] 24)).alloc (.cells V.ca 33)).alloc (.cells #[.slice R.a R.n R.c, .slice R.b R.m R.d] 36)) (w.heap.size + 1) V.cl from (Cl.at (w.alloc (.cells #[.int .u64 P, .int .u64 Q, .int .u64 G] 24)) V.cl 33 (w.heap.size + 1) (by simp)).alloc _)
  have F_r := Lh (show Cl (((w.alloc (.cells #[.int .u64 P, .int .u64 Q, .int .u64 G] 24)).alloc (.cells V.ca 33)).alloc (.cells #[.slice R.a R.n R.c, .slice R.b R.m R.d] 36)) (w.heap.size + 1 + 1) [.slice R.a R.n R.c, .slice R.b R.m R.d] from Cl.at ((w.alloc (.cells #[.int .u64 P, .int .u64 Q, .int .u64 G] 24)).alloc (.cells V.ca 33)) [.slice R.a R.n R.c, .slice R.b R.m R.d] 36 (w.heap.size + 1 + 1) (by simp))
  have HBW := Lh (show Below w.heap.size w (((w.alloc (.cells #[.int .u64 P, .int .u64 Q, .int .u64 G] 24)).alloc (.cells V.ca 33)).alloc (.cells #[.slice R.a R.n R.c, .slice R.b R.m R.d] 36)) from (((Below.refl _ _).alloc (by simp <;> omega) _).alloc (by simp <;> omega) _).alloc (by simp <;> omega) _)
  go_enter Tryz.func40, Tryz.ntmps40
  go_wp2_with fail
  go_loopw [11] (fun c11 wr => ∃ i : Nat, i ≤ n ∧ c11 = .int .i64 i ∧ Hid (i = 0 ∨ V.n = n) ∧ Hid (∀ j, j < i → V.bs.getD j (0, 0) = encP P G y (msgS R.ms (j : Int)) (R.ns.getD j 0)) ∧ Hid (Cl wr w.heap.size [.int .u64 P, .int .u64 Q, .int .u64 G]) ∧ Hid (Cl wr (w.heap.size + 1) V.cl) ∧ Hid (Cl wr (w.heap.size + 1 + 1) [.slice R.a R.n R.c, .slice R.b R.m R.d]) ∧ Hid (Below w.heap.size w wr)) (fun c11 _ => n - (intOf c11).toNat)
  case atStart => exact ⟨0, by omega, rfl, .inl rfl, Lh (fun j hj => by omega), F_g.o, F_v.o, F_r.o, HBW.o⟩
  case round =>
   clear F_g F_v F_r HBW
   obtain ⟨i, hi, rfl, HIN, HPR, F_g, F_v, F_r, HBW⟩ := hrel
   have hwi : IntKind.i64.wrap ((i : Int) + 1) = (i : Int) + 1 := IntWalk.i64_in _ (by omega)
   have v0 := F_v.o.c 0 _ rfl
   by_cases hvn : V.n = n
   case neg =>
    have hne : ¬ ((V.n : Int) = (n : Int)) := by omega
    have hd3 : ((V.n : Int) == (n : Int)) = false := beq_eq_false_iff_ne.2 hne
    have HZ := Lh (show v = false from boolP HVV.o (fun h => hvn h.1))
    by_cases hlt : i < n
    case pos =>
     have hd : decide ((i : Int) < (n : Int)) = true := decide_eq_true (by omega)
     go_wp2_with fail
     go_ret
     exact ⟨by rw [HZ.o]; rfl, HBW.o⟩
    case neg =>
     have hd : decide ((i : Int) < (n : Int)) = false := decide_eq_false (by omega)
     go_wp2_with fail
     go_ret
     exact ⟨by rw [HZ.o]; rfl, HBW.o⟩
   case pos =>
    have hd3 : ((V.n : Int) == (n : Int)) = true := beq_iff_eq.2 (by omega)
    have HVN := Lh hvn
    have hnV : n ≤ V.n := by omega
    have hnR : n ≤ R.m := by have := HRG.o.1; omega
    clear hvn
    by_cases hlt : i < n
    case neg =>
     have hd : decide ((i : Int) < (n : Int)) = false := decide_eq_false (by omega)
     have HZ := Lh (show v = true from HVV.o.2 ⟨HVN.o, fun j hj => HPR.o j (by omega)⟩)
     go_wp2_with fail
     go_ret
     exact ⟨by rw [HZ.o]; rfl, HBW.o⟩
    case pos =>
     have hd : decide ((i : Int) < (n : Int)) = true := decide_eq_true (by omega)
     have hi0 : (0 : Int) ≤ (i : Int) := by omega
     have hi2 : (i : Int) < (n : Int) := by omega
     have hi3 : (i : Int) < (V.n : Int) := by omega
     have hi4 : (i : Int) < (R.m : Int) := by omega
     have cS : Tryz.prog.cellsOf 75 = 2 := by kernel_rfl
     obtain ⟨s1, o1, hsa, hsl, e0, e1⟩ := HV.o.h1.at i (by omega)
     obtain ⟨s2, o2, hsb, hsl2, f0, -⟩ := HR.o.h2.at i (by omega)
     obtain ⟨x, x2, hxy⟩ : ∃ x y, V.bs.getD i (0, 0) = (x, y) := ⟨_, _, rfl⟩
     rw [hxy] at e0 e1
     simp only at e0 e1
     obtain ⟨nn, hnn⟩ : ∃ x, R.ns.getD i 0 = x := ⟨_, rfl⟩
     rw [hnn] at f0
     have HNN := Lh (show 0 ≤ nn ∧ nn < Q by
      have hm : nn ∈ R.ns := by rw [← hnn, List.getD_eq_getElem?_getD, List.getElem?_eq_getElem (by rw [← HL2.o]; omega)]; exact List.getElem_mem _
      refine ⟨(HR.o.u2 _ hm).1, ?_⟩
      by_cases h : nn < Q
      · exact h
      · exact absurd ⟨nn, hm, by omega⟩ HRG.o.2.1)
     obtain ⟨mm, hmm⟩ : ∃ mm, msgS R.ms (i : Int) = mm := ⟨_, rfl⟩
     have HM01 := Lh (show mm = 0 ∨ mm = 1 by rw [← hmm]; exact msgS_01 _ _)
     have hwm : IntKind.u64.wrap mm = mm := IntWalk.u64_in _ (by have := HM01.o; omega)
     obtain ⟨ea, hea⟩ : ∃ x, powm G nn P = x := ⟨_, rfl⟩
     obtain ⟨eb, heb⟩ : ∃ x, powm G mm P * powm y nn P % P = x := ⟨_, rfl⟩
     have HEA := Lh hea
     have HEB := Lh heb
     have HENC := Lh (show encP P G y (msgS R.ms (i : Int)) (R.ns.getD i 0) = (ea, eb) by unfold encP; rw [hmm, hnn, hea, heb])
     have HXY := Lh hxy
     have HMM := Lh hmm
     have F_e := Lh (show (w.cell? ⟨s1, o1 + i * 2, none⟩ = some (.int .u64 x) ∧ w.cell? ⟨s1, o1 + i * 2 + 1, none⟩ = some (.int .u64 x2)) ∧ s1 < w.heap.size from ⟨⟨e0, e1⟩, hsl⟩)
     have F_n := Lh (show w.cell? ⟨s2, o2 + i, none⟩ = some (.int .u64 nn) ∧ s2 < w.heap.size from ⟨f0, hsl2⟩)
     have HSA := Lh hsa
     have HSB := Lh hsb
     have H1 := Lh HR.o.h1
     obtain ⟨q, hq⟩ := Prop.bool ((x, x2) = (ea, eb))
     have HQ := Lh hq
     clear hq
     clear e0 e1 f0 hsl hsl2 hxy hnn hmm hea heb hsa hsb
     go_wp2_with fail
     clear v0
     have hS0 : Below wr.heap.size wr wr.drew := (Below.refl _ _).drew
     refine wp_region_stage 18 (fun w' => Below wr.heap.size wr w') (by kernel_rfl) ?_
     refine tkP (i := 0) (some 24) (.fieldAddr 33 (.tmp 8) 0) 0 (fun _ => hS0) ?_
     simp only [sY]
     refine tkL (i := 1) (some 25) (.load 27 (.tmp 24)) 27 [3, 4, 18] (v := ?_) hS0 (fun w' hSw => ?_) ?_
     rotate_left
     · have g0 := (F_g.o.keep hSw).c 0 _ rfl; have g1 := (F_g.o.keep hSw).c 1 _ rfl; have g2 := (F_g.o.keep hSw).c 2 _ rfl; have v0 := (F_v.o.keep hSw).c 0 _ rfl; have r0 := (F_r.o.keep hSw).c 0 _ rfl; have r1 := (F_r.o.keep hSw).c 1 _ rfl; rw [HSA.o] at v0; rw [HSB.o] at r1; have e0 := ((HBW.o.trans (hSw.mono HBW.o.size)).cell (p := ⟨s1, o1 + i * 2, none⟩) F_e.o.2).trans F_e.o.1.1; have e1 := ((HBW.o.trans (hSw.mono HBW.o.size)).cell (p := ⟨s1, o1 + i * 2 + 1, none⟩) F_e.o.2).trans F_e.o.1.2; have f0 := ((HBW.o.trans (hSw.mono HBW.o.size)).cell (p := ⟨s2, o2 + i, none⟩) F_n.o.2).trans F_n.o.1
       unfold bareOp; go_simp; try with_reducible rfl
     simp only [sY]
     refine tkP (i := 2) (some 26) (.move (.tmp 11)) 3 (fun _ => hS0) ?_
     simp only [sY]
     refine tkP (i := 3) (some 27) (.indexAddr 27 (.tmp 25) (.tmp 26)) 0 (fun _ => hS0) ?_
     simp only [sY]
     refine tkL (i := 4) (some 28) (.load 75 (.tmp 27)) 75 [18] (v := ?_) hS0 (fun w' hSw => ?_) ?_
     rotate_left
     · have g0 := (F_g.o.keep hSw).c 0 _ rfl; have g1 := (F_g.o.keep hSw).c 1 _ rfl; have g2 := (F_g.o.keep hSw).c 2 _ rfl; have v0 := (F_v.o.keep hSw).c 0 _ rfl; have r0 := (F_r.o.keep hSw).c 0 _ rfl; have r1 := (F_r.o.keep hSw).c 1 _ rfl; rw [HSA.o] at v0; rw [HSB.o] at r1; have e0 := ((HBW.o.trans (hSw.mono HBW.o.size)).cell (p := ⟨s1, o1 + i * 2, none⟩) F_e.o.2).trans F_e.o.1.1; have e1 := ((HBW.o.trans (hSw.mono HBW.o.size)).cell (p := ⟨s1, o1 + i * 2 + 1, none⟩) F_e.o.2).trans F_e.o.1.2; have f0 := ((HBW.o.trans (hSw.mono HBW.o.size)).cell (p := ⟨s2, o2 + i, none⟩) F_n.o.2).trans F_n.o.1
       unfold bareOp; go_simp; try with_reducible rfl
     simp only [sY]
     refine tkL (i := 5) (some 29) (.load 24 (.tmp 5)) 24 [17, 18] (v := ?_) hS0 (fun w' hSw => ?_) ?_
     rotate_left
     · have g0 := (F_g.o.keep hSw).c 0 _ rfl; have g1 := (F_g.o.keep hSw).c 1 _ rfl; have g2 := (F_g.o.keep hSw).c 2 _ rfl; have v0 := (F_v.o.keep hSw).c 0 _ rfl; have r0 := (F_r.o.keep hSw).c 0 _ rfl; have r1 := (F_r.o.keep hSw).c 1 _ rfl; rw [HSA.o] at v0; rw [HSB.o] at r1; have e0 := ((HBW.o.trans (hSw.mono HBW.o.size)).cell (p := ⟨s1, o1 + i * 2, none⟩) F_e.o.2).trans F_e.o.1.1; have e1 := ((HBW.o.trans (hSw.mono HBW.o.size)).cell (p := ⟨s1, o1 + i * 2 + 1, none⟩) F_e.o.2).trans F_e.o.1.2; have f0 := ((HBW.o.trans (hSw.mono HBW.o.size)).cell (p := ⟨s2, o2 + i, none⟩) F_n.o.2).trans F_n.o.1
       unfold bareOp; go_simp; try with_reducible rfl
     simp only [sY]
     refine tkP (i := 6) (some 30) (.move (.tmp 1)) 22 (fun _ => hS0) ?_
     simp only [sY]
     refine tkP (i := 7) (some 31) (.fieldAddr 36 (.tmp 9) 0) 0 (fun _ => hS0) ?_
     simp only [sY]
     refine tkL (i := 8) (some 32) (.load 25 (.tmp 31)) 25 [10, 11, 17, 18] (v := ?_) hS0 (fun w' hSw => ?_) ?_
     rotate_left
     · have g0 := (F_g.o.keep hSw).c 0 _ rfl; have g1 := (F_g.o.keep hSw).c 1 _ rfl; have g2 := (F_g.o.keep hSw).c 2 _ rfl; have v0 := (F_v.o.keep hSw).c 0 _ rfl; have r0 := (F_r.o.keep hSw).c 0 _ rfl; have r1 := (F_r.o.keep hSw).c 1 _ rfl; rw [HSA.o] at v0; rw [HSB.o] at r1; have e0 := ((HBW.o.trans (hSw.mono HBW.o.size)).cell (p := ⟨s1, o1 + i * 2, none⟩) F_e.o.2).trans F_e.o.1.1; have e1 := ((HBW.o.trans (hSw.mono HBW.o.size)).cell (p := ⟨s1, o1 + i * 2 + 1, none⟩) F_e.o.2).trans F_e.o.1.2; have f0 := ((HBW.o.trans (hSw.mono HBW.o.size)).cell (p := ⟨s2, o2 + i, none⟩) F_n.o.2).trans F_n.o.1
       unfold bareOp; go_simp; try with_reducible rfl
     simp only [sY]
     refine tkP (i := 9) (some 33) (.move (.tmp 11)) 3 (fun _ => hS0) ?_
     simp only [sY]
     refine tkP (i := 12) (some 36) (.fieldAddr 36 (.tmp 9) 1) 0 (fun _ => hS0) ?_
     simp only [sY]
     refine tkL (i := 13) (some 37) (.load 34 (.tmp 36)) 34 [15, 16, 17, 18] (v := ?_) hS0 (fun w' hSw => ?_) ?_
     rotate_left
     · have g0 := (F_g.o.keep hSw).c 0 _ rfl; have g1 := (F_g.o.keep hSw).c 1 _ rfl; have g2 := (F_g.o.keep hSw).c 2 _ rfl; have v0 := (F_v.o.keep hSw).c 0 _ rfl; have r0 := (F_r.o.keep hSw).c 0 _ rfl; have r1 := (F_r.o.keep hSw).c 1 _ rfl; rw [HSA.o] at v0; rw [HSB.o] at r1; have e0 := ((HBW.o.trans (hSw.mono HBW.o.size)).cell (p := ⟨s1, o1 + i * 2, none⟩) F_e.o.2).trans F_e.o.1.1; have e1 := ((HBW.o.trans (hSw.mono HBW.o.size)).cell (p := ⟨s1, o1 + i * 2 + 1, none⟩) F_e.o.2).trans F_e.o.1.2; have f0 := ((HBW.o.trans (hSw.mono HBW.o.size)).cell (p := ⟨s2, o2 + i, none⟩) F_n.o.2).trans F_n.o.1
       unfold bareOp; go_simp; try with_reducible rfl
     simp only [sY]
     refine tkP (i := 14) (some 38) (.move (.tmp 11)) 3 (fun _ => hS0) ?_
     simp only [sY]
     refine tkP (i := 15) (some 39) (.indexAddr 34 (.tmp 37) (.tmp 38)) 0 (fun _ => hS0) ?_
     simp only [sY]
     refine tkL (i := 16) (some 40) (.load 22 (.tmp 39)) 22 [17, 18] (v := ?_) hS0 (fun w' hSw => ?_) ?_
     rotate_left
     · have g0 := (F_g.o.keep hSw).c 0 _ rfl; have g1 := (F_g.o.keep hSw).c 1 _ rfl; have g2 := (F_g.o.keep hSw).c 2 _ rfl; have v0 := (F_v.o.keep hSw).c 0 _ rfl; have r0 := (F_r.o.keep hSw).c 0 _ rfl; have r1 := (F_r.o.keep hSw).c 1 _ rfl; rw [HSA.o] at v0; rw [HSB.o] at r1; have e0 := ((HBW.o.trans (hSw.mono HBW.o.size)).cell (p := ⟨s1, o1 + i * 2, none⟩) F_e.o.2).trans F_e.o.1.1; have e1 := ((HBW.o.trans (hSw.mono HBW.o.size)).cell (p := ⟨s1, o1 + i * 2 + 1, none⟩) F_e.o.2).trans F_e.o.1.2; have f0 := ((HBW.o.trans (hSw.mono HBW.o.size)).cell (p := ⟨s2, o2 + i, none⟩) F_n.o.2).trans F_n.o.1
       unfold bareOp; go_simp; try with_reducible rfl
     simp only [sY]
     refine onl (i := 10) (some 34) (.call { callee := .value (.func 77), args := #[.tmp 32, .tmp 33], argTypes := #[25, 3] }) 3 (fun K hK => ?_)
     unfold bareOp
     refine OpW.out (wp_of_enter (run_call _ _ _ _ 77 Tryz.func77 (vs := #[.slice R.a R.n R.c, .int .i64 (i : Int)]) (by simp only [List.map_toArray, List.map_cons, List.map_nil]; rfl) rfl (by kernel_rfl) (by kernel_rfl)) (rbit_any _ (H1.o.keep (HBW.o.trans (hS0.mono HBW.o.size))) (by omega)) ?_)
     rintro e w8 ⟨rfl, hw8⟩
     refine ⟨_, rfl, ?_⟩
     rw [hw8, HMM.o]
     clear hw8
     refine hK.o _ _ (fun _ => hS0) ?_
     clear hK K
     try simp only [sY]
     refine tkP (i := 11) (some 35) (.convert 3 22 (.tmp 34)) 22 (fun _ => hS0) ?_
     simp only [sY]
     refine onl (i := 17) (some 41) (.call { callee := .value (.func 78), args := #[.tmp 29, .tmp 30, .tmp 35, .tmp 40], argTypes := #[24, 22, 22, 22] }) 75 (fun K hK => ?_)
     unfold bareOp
     refine OpW.out (wp_of_enter (run_call _ _ _ _ 78 Tryz.func78 (vs := #[(.agg #[.int .u64 P, .int .u64 Q, .int .u64 G]), .int .u64 y, .int .u64 mm, .int .u64 nn]) (by simp only [List.map_toArray, List.map_cons, List.map_nil]; rfl) rfl (by kernel_rfl) (by kernel_rfl)) (rMake_any _ HH.o y0 yP (by have := HM01.o; omega) (by have := HM01.o; have := HRQ.o; omega) HNN.o.1 HNN.o.2 HEA.o HEB.o) ?_)
     rintro e w9 ⟨rfl, hb9⟩
     refine ⟨_, rfl, ?_⟩
     replace hS0 := hS0.trans (hb9.mono hS0.size)
     clear hb9
     refine hK.o _ _ (fun _ => hS0) ?_
     clear hK K
     try simp only [sY]
     refine onl (i := 18) (some 42) (.binOp .neq 75 (.tmp 28) (.tmp 41) 75) 4 (fun K hK => ?_)
     unfold bareOp
     refine OpW.out (wp_of_run (run_neq_sealed _ _ _ _ _ _ rfl rfl HQ.o) ?_)
     refine hK.o _ _ lt8 ?_
     clear hK K
     try simp only [sY]
     refine wpAnyB_done (by kernel_rfl) ?_ _
     replace F_g := Lh (F_g.o.keep hS0)
     replace F_v := Lh (F_v.o.keep hS0)
     replace F_r := Lh (F_r.o.keep hS0)
     replace HBW := Lh (HBW.o.trans (hS0.mono HBW.o.size))
     clear hS0
     cases q with
     | false =>
      have HZ := Lh (show v = false from boolP HVV.o (fun h => by have h2 := h.2 i hlt; rw [HXY.o, HENC.o] at h2; have := HQ.o.2 h2; cases this))
      go_wp2_with fail
      go_ret
      exact ⟨by rw [HZ.o]; rfl, HBW.o⟩
     | true =>
      have HPN := Lh (show ∀ j, j < i + 1 → V.bs.getD j (0, 0) = encP P G y (msgS R.ms (j : Int)) (R.ns.getD j 0) from fun j hj => by
       by_cases e : j < i
       · exact HPR.o j e
       · obtain rfl : j = i := by omega
         rw [HXY.o, HENC.o]; exact HQ.o.1 rfl)
      go_wp2_with fail
      go_roundw
      case rel => exact ⟨i + 1, by omega, by go_num, .inr HVN.o, HPN.o, F_g.o, F_v.o, F_r.o, HBW.o⟩
      case measure => simp [intOf] <;> omega
set_option maxHeartbeats 16000000 in
theorem rMatches36_any {P Q G y n : Int} {V : Vt} {R : Rv} (w : World) (hP : 0 ≤ P) (hQ : 0 ≤ Q) (hG : 0 ≤ G) (hy : 0 ≤ y) (hV : VtIn w V) (hR : RvIn w R) (hrn : R.n ≤ 1000) (hrm : R.m ≤ 1000) :
    Calls Tryz.prog 9 #[(.agg #[.int .u64 P, .int .u64 Q, .int .u64 G]), .int .u64 y, .int .i64 n, V.v, R.v] w (MatR w P Q G y n V R) := by
  have HV := Lh hV
  have HR := Lh hR
  clear hV hR
  unfold Vt.v Rv.v
  have F_g := Lh (show Cl (((w.alloc (.cells #[.int .u64 P, .int .u64 Q, .int .u64 G] 24)).alloc (.cells V.ca 33)).alloc (.cells #[.slice R.a R.n R.c, .slice R.b R.m R.d] 36)) (w.heap.size) [.int .u64 P, .int .u64 Q, .int .u64 G] from ((Cl.at w [.int .u64 P, .int .u64 Q, .int .u64 G] 24 (w.heap.size) (by simp)).alloc _).alloc _)
  have F_v := Lh (show Cl (((w.alloc (.cells #[.int .u64 P, .int .u64 Q, .int .u64 G] 24)).alloc (.cells V.ca 33)).alloc (.cells #[.slice R.a R.n R.c, .slice R.b R.m R.d] 36)) (w.heap.size + 1) V.cl from (Cl.at (w.alloc (.cells #[.int .u64 P, .int .u64 Q, .int .u64 G] 24)) V.cl 33 (w.heap.size + 1) (by simp)).alloc _)
  have F_r := Lh (show Cl (((w.alloc (.cells #[.int .u64 P, .int .u64 Q, .int .u64 G] 24)).alloc (.cells V.ca 33)).alloc (.cells #[.slice R.a R.n R.c, .slice R.b R.m R.d] 36)) (w.heap.size + 1 + 1) [.slice R.a R.n R.c, .slice R.b R.m R.d] from Cl.at ((w.alloc (.cells #[.int .u64 P, .int .u64 Q, .int .u64 G] 24)).alloc (.cells V.ca 33)) [.slice R.a R.n R.c, .slice R.b R.m R.d] 36 (w.heap.size + 1 + 1) (by simp))
  have HBW := Lh (show Below w.heap.size w (((w.alloc (.cells #[.int .u64 P, .int .u64 Q, .int .u64 G] 24)).alloc (.cells V.ca 33)).alloc (.cells #[.slice R.a R.n R.c, .slice R.b R.m R.d] 36)) from (((Below.refl _ _).alloc (by simp <;> omega) _).alloc (by simp <;> omega) _).alloc (by simp <;> omega) _)
  go_enter Tryz.func9, Tryz.ntmps9
  have q_g_0 := F_g.o.c 0 _ rfl
  have q_g_1 := F_g.o.c 1 _ rfl
  have q_g_2 := F_g.o.c 2 _ rfl
  go_wp2_with fail
  clear q_g_0 q_g_1 q_g_2
  refine (rAsked36_any _ hP hQ hG hy).mono ?_
  rintro e w2 ⟨rfl, hb2⟩
  replace F_g := Lh (F_g.o.keep hb2)
  replace F_v := Lh (F_v.o.keep hb2)
  replace F_r := Lh (F_r.o.keep hb2)
  replace HBW := Lh (HBW.o.trans (hb2.mono HBW.o.size))
  clear hb2
  obtain ⟨e0, he0⟩ : ∃ e0, chkB P Q G y n = e0 := ⟨_, rfl⟩
  rw [he0]
  by_cases hk : e0 = 0
  case neg =>
   have d0 : decide (e0 = 0) = false := decide_eq_false hk
   have HK := Lh (And.intro hk he0)
   clear he0
   go_wp2_with fail
   go_ret2
   exact ⟨HBW.o, .inl ⟨by rw [HK.o.2]; exact HK.o.1, by rw [HK.o.2]; rfl⟩⟩
  case pos =>
   subst hk
   have HK0 := Lh he0
   have hck := chkB_ok he0
   obtain ⟨k, rfl⟩ : ∃ k : Nat, n = k := ⟨n.toNat, by omega⟩
   have HCK := Lh hck
   have hk1 : 1 ≤ k := by have := hck.2.2.1; omega
   have hk2 : k ≤ 10 := by have := hck.2.2.2; omega
   clear hck he0
   have q_g_0 := F_g.o.c 0 _ rfl
   have q_g_1 := F_g.o.c 1 _ rfl
   have q_g_2 := F_g.o.c 2 _ rfl
   have q_r_0 := F_r.o.c 0 _ rfl
   have q_r_1 := F_r.o.c 1 _ rfl
   go_wp2_with fail
   clear q_g_0 q_g_1 q_g_2 q_r_0 q_r_1
   obtain ⟨v1, hv1⟩ := Prop.bool (rangeP Q k R)
   have HV1 := Lh hv1
   clear hv1
   refine (rrevealed_any _ (HR.o.keep HBW.o) hrn (by omega) hrm HV1.o).mono ?_
   rintro e w3 ⟨rfl, hb3⟩
   replace F_g := Lh (F_g.o.keep hb3)
   replace F_v := Lh (F_v.o.keep hb3)
   replace F_r := Lh (F_r.o.keep hb3)
   replace HBW := Lh (HBW.o.trans (hb3.mono HBW.o.size))
   clear hb3
   cases v1 with
   | false =>
    go_wp2_with fail
    go_ret2
    exact ⟨HBW.o, .inr ⟨HK0.o, .inl ⟨(fun h => by rw [Int.toNat_natCast] at h; have := HV1.o.2 h; cases this), rfl⟩⟩⟩
   | true =>
    have HRGP := Lh (HV1.o.1 rfl)
    clear HV1
    obtain ⟨v2, hv2⟩ := Prop.bool (matchP P G y k V R)
    have HV2 := Lh hv2
    clear hv2
    have q_g_0 := F_g.o.c 0 _ rfl
    have q_g_1 := F_g.o.c 1 _ rfl
    have q_g_2 := F_g.o.c 2 _ rfl
    have q_v_0 := F_v.o.c 0 _ rfl
    have q_v_1 := F_v.o.c 1 _ rfl
    have q_v_2 := F_v.o.c 2 _ rfl
    have q_v_3 := F_v.o.c 3 _ rfl
    have q_v_4 := F_v.o.c 4 _ rfl
    have q_v_5 := F_v.o.c 5 _ rfl
    have q_v_6 := F_v.o.c 6 _ rfl
    have q_v_7 := F_v.o.c 7 _ rfl
    have q_v_8 := F_v.o.c 8 _ rfl
    have q_v_9 := F_v.o.c 9 _ rfl
    have q_v_10 := F_v.o.c 10 _ rfl
    have q_r_0 := F_r.o.c 0 _ rfl
    have q_r_1 := F_r.o.c 1 _ rfl
    go_wp2_with fail
    clear q_g_0 q_g_1 q_g_2 q_v_0 q_v_1 q_v_2 q_v_3 q_v_4 q_v_5 q_v_6 q_v_7 q_v_8 q_v_9 q_v_10 q_r_0 q_r_1
    refine (rIs_any _ HCK.o.1 hy HCK.o.2.1 hk2 (HV.o.keep HBW.o) (HR.o.keep HBW.o) HRGP.o hrn HV2.o).mono ?_
    rintro e w4 ⟨rfl, hb4⟩
    replace F_g := Lh (F_g.o.keep hb4)
    replace F_v := Lh (F_v.o.keep hb4)
    replace F_r := Lh (F_r.o.keep hb4)
    replace HBW := Lh (HBW.o.trans (hb4.mono HBW.o.size))
    clear hb4
    go_wp2_with fail
    go_ret2
    exact ⟨HBW.o, .inr ⟨HK0.o, .inr ⟨by rw [Int.toNat_natCast]; exact HRGP.o, v2, rfl, by rw [Int.toNat_natCast]; exact HV2.o⟩⟩⟩
open Go Go.RowKit Num Sha
theorem seal_any {P Q G y n : Int} {a : Option Addr} {m c : Nat} {ms seed : List Int} {one : Bool} (w : World) (hT : Tabs w) (hP : 0 ≤ P) (hQ : 0 ≤ Q) (hG : 0 ≤ G) (hy : 0 ≤ y) (hS : ShI .i64 w a m ms) (hkc : a = none → c = 0) (hu : ∀ x, x ∈ ms → -9223372036854775808 ≤ x ∧ x ≤ 9223372036854775807) (hm : m ≤ 9223372036854775807) (hsl : seed.length = 32) (hby : ByteL seed) :
    Calls Tryz.prog 6 #[.agg #[.int .u64 P, .int .u64 Q, .int .u64 G], .int .u64 y, .int .i64 n, .slice a m c, .bool one, .agg (valV .u8 seed)] w (SealR w P Q G y n ms one seed) := by
  by_cases hE : sealE P Q G y n ms one = 0
  case neg => exact seal_bad w hT hP hQ hG hy hS hkc hu hm hsl hby hE
  case pos =>
   have hk : chkB P Q G y n = 0 := by
    unfold sealE at hE
    split at hE
    · next h => exact absurd hE h
    · next h => exact Classical.not_not.1 h
   have hmk : markedS n ms = true ∧ (one = true → ms.length ≤ 1) := by
    unfold sealE at hE
    rw [if_neg (by simpa using hk)] at hE
    split at hE
    · assumption
    · cases hE
   obtain ⟨-, -, h1, h10⟩ := chkB_ok hk
   obtain ⟨j, rfl⟩ := Int.eq_ofNat_of_zero_le (show 0 ≤ n by omega)
   exact seal_ok w hT hP hQ hG hy hS hkc hu hm hsl hby (by omega) (by omega) hk hmk.1 (fun h => by rw [hS.len]; exact hmk.2 h)
open Go Go.RowKit Num Sha
theorem BitZb.one {P Q G y m r k c z : Int} {T : List Int} {p q : Bt} (h : BitZb P Q G y m r k c z T p) (h' : BitZb P Q G y m r k c z T q) : p = q := by
 obtain ⟨p0, p1, p2, p3, p4, p5, p6, p7⟩ := p
 obtain ⟨q0, q1, q2, q3, q4, q5, q6, q7⟩ := q
 obtain ⟨a, b, nn, pp, t1, mi, g1, g2, Rj, h1, h2, Sj, Rm, Sm, tot, Cm, Zm, rfl, rfl, rfl, rfl, rfl, rfl, rfl, rfl, rfl, rfl, rfl, rfl, rfl, rfl, rfl, rfl, rfl, e⟩ := h
 obtain ⟨a, b, nn, pp, t1, mi, g1, g2, Rj, h1, h2, Sj, Rm, Sm, tot, Cm, Zm, rfl, rfl, rfl, rfl, rfl, rfl, rfl, rfl, rfl, rfl, rfl, rfl, rfl, rfl, rfl, rfl, rfl, e'⟩ := h'
 simp only at e e'
 by_cases hm : m = 0
 · rw [if_pos hm] at e e'
   simp only [Bt.mk.injEq]
   exact ⟨e.1.trans e'.1.symm, e.2.1.trans e'.2.1.symm, e.2.2.1.trans e'.2.2.1.symm, e.2.2.2.1.trans e'.2.2.2.1.symm, e.2.2.2.2.1.trans e'.2.2.2.2.1.symm, e.2.2.2.2.2.1.trans e'.2.2.2.2.2.1.symm, e.2.2.2.2.2.2.1.trans e'.2.2.2.2.2.2.1.symm, e.2.2.2.2.2.2.2.trans e'.2.2.2.2.2.2.2.symm⟩
 · rw [if_neg hm] at e e'
   simp only [Bt.mk.injEq]
   exact ⟨e.1.trans e'.1.symm, e.2.1.trans e'.2.1.symm, e.2.2.1.trans e'.2.2.1.symm, e.2.2.2.1.trans e'.2.2.2.1.symm, e.2.2.2.2.1.trans e'.2.2.2.2.1.symm, e.2.2.2.2.2.1.trans e'.2.2.2.2.2.1.symm, e.2.2.2.2.2.2.1.trans e'.2.2.2.2.2.2.1.symm, e.2.2.2.2.2.2.2.trans e'.2.2.2.2.2.2.2.symm⟩
theorem list_ext_getD {α : Type} {l l' : List α} (z : α) (h : l.length = l'.length) (he : ∀ i, i < l.length → l.getD i z = l'.getD i z) : l = l' := by
 refine List.ext_getElem h fun i h1 h2 => ?_
 have := he i h1
 rwa [List.getD_eq_getElem?_getD, List.getD_eq_getElem?_getD, List.getElem?_eq_getElem h1, List.getElem?_eq_getElem h2] at this
def Vt.none : Vt := ⟨Option.none, 0, 0, [], Option.none, 0, 0, [], false, Bt.zero⟩
def Rv.none : Rv := ⟨Option.none, 0, 0, [], Option.none, 0, 0, []⟩
theorem VtIn.none (w : World) : VtIn w Vt.none := ⟨.inl ⟨rfl, rfl⟩, (fun q h => by cases h), (fun _ => rfl), .inl ⟨rfl, rfl⟩, (fun q h => by cases h), (fun _ => rfl), by simp [Vt.none, Bt.zero, Bt.u, U64]⟩
theorem RvIn.none (w : World) : RvIn w Rv.none := ⟨.inl ⟨rfl, rfl⟩, (fun q h => by cases h), (fun _ => rfl), .inl ⟨rfl, rfl⟩, (fun q h => by cases h), (fun _ => rfl)⟩
def SealT (P Q G y n : Int) (ms : List Int) (one : Bool) (seed : List Int) (V : Vt) (R : Rv) (er : Int) : Prop :=
  (sealE P Q G y n ms one ≠ 0 ∧ er = sealE P Q G y n ms one ∧ V = Vt.none ∧ R = Rv.none) ∨ (sealE P Q G y n ms one = 0 ∧ ((sampS seed Q (manyS n one) = Option.none ∧ er = 6 ∧ V = Vt.none ∧ R = Rv.none) ∨ ∃ d, sampS seed Q (manyS n one) = some d ∧ er = 0 ∧ SealV P Q G y n.toNat ms one d V R))
theorem SealR.told {w w' : World} {P Q G y n : Int} {ms : List Int} {one : Bool} {seed : List Int} {e : Ending} (h : SealR w P Q G y n ms one seed e w') : Below w.heap.size w w' ∧ ∃ V R er, e = .returned (.tuple #[V.v, R.v, .int .i64 er]) ∧ VtIn w' V ∧ RvIn w' R ∧ SealT P Q G y n ms one seed V R er := by
 obtain ⟨hb, ⟨h0, rfl⟩ | ⟨h0, ⟨hs, rfl⟩ | ⟨d, V, R, hs, rfl, hv, h1, h2⟩⟩⟩ := h
 · exact ⟨hb, Vt.none, Rv.none, _, rfl, VtIn.none _, RvIn.none _, .inl ⟨h0, rfl, rfl, rfl⟩⟩
 · exact ⟨hb, Vt.none, Rv.none, _, rfl, VtIn.none _, RvIn.none _, .inr ⟨h0, .inl ⟨hs, rfl, rfl, rfl⟩⟩⟩
 · exact ⟨hb, V, R, _, rfl, h1, h2, .inr ⟨h0, .inr ⟨d, hs, rfl, hv⟩⟩⟩
theorem sealE_n {P Q G y n : Int} {ms : List Int} {one : Bool} (h : sealE P Q G y n ms one = 0) : n.toNat ≤ 10 := by
 by_cases hc : chkB P Q G y n = 0
 · have := (chkB_ok hc).2.2; omega
 · rw [sealE, if_pos hc] at h; exact absurd h hc
theorem SealT.few {P Q G y n : Int} {ms : List Int} {one : Bool} {seed : List Int} {V : Vt} {R : Rv} {er : Int} (h : SealT P Q G y n ms one seed V R er) (hm : ms.length ≤ 100) : V.n ≤ 100 ∧ V.m ≤ 100 ∧ R.n ≤ 100 ∧ R.m ≤ 100 := by
 rcases h with ⟨-, -, rfl, rfl⟩ | ⟨h0, ⟨-, -, rfl, rfl⟩ | ⟨d, -, -, hv⟩⟩
 · exact ⟨Nat.zero_le _, Nat.zero_le _, Nat.zero_le _, Nat.zero_le _⟩
 · exact ⟨Nat.zero_le _, Nat.zero_le _, Nat.zero_le _, Nat.zero_le _⟩
 · have := sealE_n h0
   have := hv.en; have := hv.em; have := hv.ern; have := hv.erm
   omega
theorem SealT.same {w w' : World} {P Q G y n : Int} {ms : List Int} {one : Bool} {seed : List Int} {V V' : Vt} {R R' : Rv} {er er' : Int} (h : SealT P Q G y n ms one seed V R er) (h' : SealT P Q G y n ms one seed V' R' er') (hV : VtIn w V) (hV' : VtIn w' V') :
    er = er' ∧ V.bs = V'.bs ∧ V.ps = V'.ps ∧ V.one = V'.one ∧ V.z = V'.z ∧ R.ms = R'.ms ∧ R.ns = R'.ns := by
  rcases h with ⟨h0, rfl, rfl, rfl⟩ | ⟨h0, ⟨hs, rfl, rfl, rfl⟩ | ⟨d, hs, rfl, hv⟩⟩ <;> rcases h' with ⟨k0, rfl, rfl, rfl⟩ | ⟨k0, ⟨ks, rfl, rfl, rfl⟩ | ⟨d', ks, rfl, kv⟩⟩ <;> first
    | exact ⟨rfl, rfl, rfl, rfl, rfl, rfl, rfl⟩
    | exact absurd k0 h0
    | exact absurd h0 k0
    | (rw [hs] at ks; cases ks; done)
    | skip
  · rw [hs] at ks
    cases ks
    refine ⟨rfl, list_ext_getD (0, 0) (hv.bl.trans kv.bl.symm) fun i hi => ?_, list_ext_getD Bt.zero ?_ fun i hi => ?_, hv.eo.trans kv.eo.symm, ?_, hv.erms.trans kv.erms.symm, hv.erns.trans kv.erns.symm⟩
    · rw [hv.bl] at hi
      rw [hv.eb i hi, kv.eb i hi]
    · rw [← hV.h2.len, ← hV'.h2.len, hv.em, kv.em]
    · rw [← hV.h2.len, hv.em] at hi
      exact (hv.ep i hi).one (kv.ep i hi)
    · rcases hv.ez with ⟨h1, h2⟩ | ⟨h1, h2⟩ <;> rcases kv.ez with ⟨k1, k2⟩ | ⟨k1, k2⟩
      · exact h2.one k2
      · rw [h1] at k1; cases k1
      · rw [h1] at k1; cases k1
      · rw [h2, k2]
theorem MatR.told {w w' : World} {P Q G y n : Int} {V : Vt} {R : Rv} {e : Ending} (h : MatR w P Q G y n V R e w') : Below w.heap.size w w' ∧ ∃ (b : Bool) (er : Int), e = .returned (.tuple #[.bool b, .int .i64 er]) ∧ (b = true ↔ chkB P Q G y n = 0 ∧ rangeP Q n.toNat R ∧ matchP P G y n.toNat V R) ∧ ((chkB P Q G y n ≠ 0 ∧ er = chkB P Q G y n) ∨ (chkB P Q G y n = 0 ∧ ((¬ rangeP Q n.toNat R ∧ er = 2) ∨ (rangeP Q n.toNat R ∧ er = 0)))) := by
 obtain ⟨hb, ⟨h0, rfl⟩ | ⟨h0, ⟨h1, rfl⟩ | ⟨h1, v, rfl, hv⟩⟩⟩ := h
 · exact ⟨hb, _, _, rfl, ⟨(fun h => by cases h), fun h => absurd h.1 h0⟩, .inl ⟨h0, rfl⟩⟩
 · exact ⟨hb, _, _, rfl, ⟨(fun h => by cases h), fun h => absurd h.2.1 h1⟩, .inr ⟨h0, .inl ⟨h1, rfl⟩⟩⟩
 · exact ⟨hb, _, _, rfl, ⟨fun h => ⟨h0, h1, hv.1 h⟩, fun h => hv.2 h.2.2⟩, .inr ⟨h0, .inr ⟨h1, rfl⟩⟩⟩
theorem MatR.same {w w' u u' : World} {P Q G y n : Int} {V : Vt} {R : Rv} {e e' : Ending} (h : MatR w P Q G y n V R e w') (h' : MatR u P Q G y n V R e' u') : e = e' := by
 obtain ⟨-, b, er, rfl, h1, h2⟩ := h.told
 obtain ⟨-, b', er', rfl, k1, k2⟩ := h'.told
 have hb : b = b' := by rw [Bool.eq_iff_iff, h1, k1]
 have he : er = er' := by
  rcases h2 with ⟨h2, rfl⟩ | ⟨h2, ⟨h3, rfl⟩ | ⟨h3, rfl⟩⟩ <;> rcases k2 with ⟨k2, rfl⟩ | ⟨k2, ⟨k3, rfl⟩ | ⟨k3, rfl⟩⟩ <;> first | rfl | exact absurd h2 k2 | exact absurd k2 h2 | exact absurd h3 k3 | exact absurd k3 h3
 rw [hb, he]
open Go Go.RowKit Num Sha
set_option maxHeartbeats 8000000 in
theorem rReveal_aux {a1 a2 b1 b2 : Option Addr} {n m c1 c2 d1 d2 : Nat} {ms ns : List Int} (w : World) (hn : n ≤ 1000) (hm : m ≤ 1000) (h1 : ShI .i64 w a1 n ms) (h2 : ShI .i64 w a2 n ms) (h3 : ShI .u64 w b1 m ns) (h4 : ShI .u64 w b2 m ns) :
    Calls Tryz.prog 11 #[.agg #[.slice a1 n c1, .slice b1 m d1], .agg #[.slice a2 n c2, .slice b2 m d2]] w fun e w' => e = .returned (.bool true) ∧ Below w.heap.size w w' := by
  have H1 := Lh h1
  have H2 := Lh h2
  have H3 := Lh h3
  have H4 := Lh h4
  have F_v := Lh (show Cl ((w.alloc (.cells #[.slice a1 n c1, .slice b1 m d1] 36)).alloc (.cells #[.slice a2 n c2, .slice b2 m d2] 36)) w.heap.size [.slice a1 n c1, .slice b1 m d1] from (Cl.at w [.slice a1 n c1, .slice b1 m d1] 36 w.heap.size rfl).alloc _)
  have F_u := Lh (show Cl ((w.alloc (.cells #[.slice a1 n c1, .slice b1 m d1] 36)).alloc (.cells #[.slice a2 n c2, .slice b2 m d2] 36)) (w.heap.size + 1) [.slice a2 n c2, .slice b2 m d2] from Cl.at (w.alloc (.cells #[.slice a1 n c1, .slice b1 m d1] 36)) [.slice a2 n c2, .slice b2 m d2] 36 (w.heap.size + 1) (by simp))
  have HBW := Lh (show Below w.heap.size w ((w.alloc (.cells #[.slice a1 n c1, .slice b1 m d1] 36)).alloc (.cells #[.slice a2 n c2, .slice b2 m d2] 36)) from ((Below.refl _ _).alloc (Nat.le_refl _) _).alloc (by simp) _)
  clear h1 h2 h3 h4
  go_enter Tryz.func11, Tryz.ntmps11
  have q0 := F_v.o.c 0 _ rfl
  have q1 := F_v.o.c 1 _ rfl
  have y0 := F_u.o.c 0 _ rfl
  have y1 := F_u.o.c 1 _ rfl
  go_wp2_with fail
  clear q0 q1 y0 y1
  go_loopw [5] (fun cv wr => ∃ (i : Nat), i ≤ n ∧ cv = .int .i64 i ∧ Hid (Cl wr w.heap.size [.slice a1 n c1, .slice b1 m d1]) ∧ Hid (Cl wr (w.heap.size + 1) [.slice a2 n c2, .slice b2 m d2]) ∧ Hid (Below w.heap.size w wr)) (fun cv _ => n - (intOf cv).toNat)
  case atStart => exact ⟨0, by omega, rfl, F_v.o, F_u.o, HBW.o⟩
  case round =>
   clear F_v F_u HBW
   obtain ⟨i, hi, rfl, F_v, F_u, HBW⟩ := hrel
   have hwi : IntKind.i64.wrap ((i : Int) + 1) = (i : Int) + 1 := IntWalk.i64_in _ (by omega)
   have hi0 : (0 : Int) ≤ (i : Int) := by omega
   have q0 := F_v.o.c 0 _ rfl
   have q1 := F_v.o.c 1 _ rfl
   have y0 := F_u.o.c 0 _ rfl
   have y1 := F_u.o.c 1 _ rfl
   by_cases hlt : i < n
   case pos =>
    have hi2 : (i : Int) < (n : Int) := by omega
    obtain ⟨s, o, hsa, hsl, e0, -⟩ := (H1.o.keep HBW.o).at i hlt
    obtain ⟨s', o', hsa', hsl', e0', -⟩ := (H2.o.keep HBW.o).at i hlt
    generalize ms.getD i 0 = x at e0 e0'
    rw [hsa] at q0
    rw [hsa'] at y0
    clear hsa hsa' hsl hsl'
    go_wp2_with fail
    go_region
    go_wp2_with fail
    go_roundw
    case rel => exact ⟨i + 1, by omega, by go_num, F_v.o.drew, F_u.o.drew, HBW.o.drew⟩
    case measure => simp [intOf] <;> omega
   case neg =>
    have hi2 : ¬ ((i : Int) < (n : Int)) := by omega
    go_wp2_with fail
    clear q0 q1 y0 y1
    clear hwi hi0 hi2
    obtain ⟨wb, rfl⟩ : ∃ wb, wb = wr := ⟨_, rfl⟩
    go_loopw [6] (fun cv wr => ∃ (i : Nat), i ≤ m ∧ cv = .int .i64 i ∧ Hid (Cl wr w.heap.size [.slice a1 n c1, .slice b1 m d1]) ∧ Hid (Cl wr (w.heap.size + 1) [.slice a2 n c2, .slice b2 m d2]) ∧ Hid (Below w.heap.size w wr)) (fun cv _ => m - (intOf cv).toNat)
    case atStart => exact ⟨0, by omega, rfl, F_v.o, F_u.o, HBW.o⟩
    case round =>
     clear F_v F_u HBW
     obtain ⟨i, hi, rfl, F_v, F_u, HBW⟩ := hrel
     have hwi : IntKind.i64.wrap ((i : Int) + 1) = (i : Int) + 1 := IntWalk.i64_in _ (by omega)
     have hi0 : (0 : Int) ≤ (i : Int) := by omega
     have q0 := F_v.o.c 0 _ rfl
     have q1 := F_v.o.c 1 _ rfl
     have y0 := F_u.o.c 0 _ rfl
     have y1 := F_u.o.c 1 _ rfl
     by_cases hlt : i < m
     case pos =>
      have hi2 : (i : Int) < (m : Int) := by omega
      obtain ⟨s, o, hsa, hsl, e0, -⟩ := (H3.o.keep HBW.o).at i hlt
      obtain ⟨s', o', hsa', hsl', e0', -⟩ := (H4.o.keep HBW.o).at i hlt
      generalize ns.getD i 0 = x at e0 e0'
      rw [hsa] at q1
      rw [hsa'] at y1
      clear hsa hsa' hsl hsl'
      go_wp2_with fail
      go_region
      go_wp2_with fail
      go_roundw
      case rel => exact ⟨i + 1, by omega, by go_num, F_v.o.drew, F_u.o.drew, HBW.o.drew⟩
      case measure => simp [intOf] <;> omega
     case neg =>
      have hi2 : ¬ ((i : Int) < (m : Int)) := by omega
      go_wp2_with fail
      clear q0 q1 y0 y1
      clear hwi hi0 hi2
      go_ret
      exact ⟨rfl, HBW.o⟩
theorem rReveal_any {R S : Rv} (w : World) (hR : RvIn w R) (hS : RvIn w S) (h1 : R.ms = S.ms) (h2 : R.ns = S.ns) (hn : R.n ≤ 1000) (hm : R.m ≤ 1000) :
    Calls Tryz.prog 11 #[R.v, S.v] w fun e w' => e = .returned (.bool true) ∧ Below w.heap.size w w' := by
  have e1 := hR.h1.len
  have e2 := hS.h1.len
  have e3 := hR.h2.len
  have e4 := hS.h2.len
  obtain ⟨a1, n, c1, ms, b1, m, d1, ns⟩ := R
  obtain ⟨a2, n', c2, ms', b2, m', d2, ns'⟩ := S
  simp only at *
  subst h1 h2
  obtain rfl : n' = n := by omega
  obtain rfl : m' = m := by omega
  exact rReveal_aux w hn hm hR.h1 hS.h1 hR.h2 hS.h2
open Go.ChangeShapes Go.WideShapes Go.ChangeAt Go.RowKit Num
theorem open_numsF {P : Program} {H : Type} {enc : TypeId × Value → H} {w : World} {base : Nat} {held : Bool} {t e : TypeId} {q : IntKind} {fuel : Nat} {v0 : Value} {y : DataW H × List MemPlace} (ht : P.underlying t = some (.slice e)) (he : P.underlying e = some (.int q)) (hc1 : P.cellsOf e = 1) (hf : DataW.trod enc P w base (fun _ => true) held fuel t [v0] = some y) :
    ∃ a n c xs, v0 = .slice a n c ∧ ShI q w a n xs ∧ (∀ x, x ∈ xs → (Lit.int q x).wf = true) ∧ (a = none → c = 0) ∧ n ≤ c ∧ c ≤ 9223372036854775807 := by
  rcases open_ints ht he hc1 hf with ⟨hcs, -⟩ | ⟨a, len, cap, zs, hcs, -, hl, hm, hz, -, hcell, hw⟩
  · simp at hcs
    exact ⟨none, 0, 0, [], hcs, .inl ⟨rfl, rfl⟩, (fun q hq => by cases hq), (fun _ => rfl), Nat.le_refl _, Nat.zero_le _⟩
  · simp at hcs
    subst hcs
    have hmc : zs.length = cap := by simpa using hz
    by_cases hl0 : len = 0
    · subst hl0
      exact ⟨_, _, _, [], rfl, .inl ⟨rfl, rfl⟩, (fun q hq => by cases hq), (fun h => by cases h), hl, by unfold maxLen at hm; omega⟩
    · obtain ⟨b, off, spot⟩ := a
      have g0 := hcell 0 (by omega)
      have hspot : spot = none := by simpa [Addr.add] using World.cell?_spot g0
      subst hspot
      have hlt : b < w.heap.size := by
       have := World.block_lt_of_cell? w _ g0
       simpa [add_plain'] using this
      refine ⟨_, _, _, zs.take len, rfl, .inr ⟨b, off, rfl, by simp; omega, hlt, fun i hi => ?_⟩, fun z hz => hw z (List.mem_of_mem_take hz), (fun h => by cases h), hl, by unfold maxLen at hm; omega⟩
      have hi' : i < len ∧ i < zs.length := by simp at hi; omega
      have e : (zs.take len).getD i 0 = zs.getD i 0 := by simp [List.getD_eq_getElem?_getD, List.getElem?_take, hi'.1]
      rw [e, ← add_plain']; exact hcell i hi'.2
theorem wf_i64 {x : Int} (h : (Lit.int .i64 x).wf = true) : -9223372036854775808 ≤ x ∧ x ≤ 9223372036854775807 := by
 have h := bounds_i64 h
 exact ⟨h.1, by have := h.2; omega⟩
theorem open_marks {H : Type} {enc : TypeId × Value → H} {w : World} {base : Nat} {held : Bool} {r : Reach} {b0 : Nat} {v : Value} {d : DataW H} {p : List MemPlace} (hv : Value.okWide Tryz.prog w r b0 25 v) (h : DataW.Trod enc Tryz.prog w base (fun _ => true) held 25 v d p) :
    ∃ a n c xs, v = .slice a n c ∧ ShI .i64 w a n xs ∧ (∀ x, x ∈ xs → -9223372036854775808 ≤ x ∧ x ≤ 9223372036854775807) ∧ (a = none → c = 0) ∧ n ≤ 9223372036854775807 := by
  obtain ⟨a0, l0, c0, rfl⟩ := okWide_slice Tryz.underlying25 hv
  obtain ⟨fuel, hf⟩ := h
  obtain ⟨a, n, c, xs, h1, h2, h3, h4, h5, h6⟩ := open_numsF Tryz.underlying25 Tryz.underlying3 (by kernel_rfl) (show DataW.trod enc Tryz.prog w base (fun _ => true) held fuel 25 [.slice a0 l0 c0] = some _ from hf)
  exact ⟨a, n, c, xs, h1, h2, fun x hx => wf_i64 (h3 x hx), h4, by omega⟩
theorem reveal_cells {H : Type} {enc : TypeId × Value → H} {w : World} {base : Nat} {held : Bool} {fuel : Nat} {cs : List Value} {x : DataW H × List MemPlace} (h2 : cs.length = 2) (hf : DataW.trod enc Tryz.prog w base (fun _ => true) held fuel 36 cs = some x) : ∃ R : Rv, cs = [.slice R.a R.n R.c, .slice R.b R.m R.d] ∧ RvIn w R := by
 obtain ⟨x0, x1, hl⟩ := list2 _ h2
 rw [hl] at hf
 obtain ⟨xs, k, hk, hxy, _, hxl, hff⟩ := DataW.trod_struct Tryz.underlying36 hf
 match xs, hxl with
 | [y0, y1], _ =>
  have c1 : Tryz.prog.cellsOf 25 = 1 := by kernel_rfl
  have c2 : Tryz.prog.cellsOf 34 = 1 := by kernel_rfl
  have g0 := hff 0 _ rfl
  have g1 := hff 1 _ rfl
  simp [c1, c2] at g0 g1
  obtain ⟨a, n, c, ms, rfl, q1, q2, q3, -⟩ := open_numsF Tryz.underlying25 Tryz.underlying3 (by kernel_rfl) g0
  obtain ⟨b, m, d, ns, rfl, q4, q5, q6, -⟩ := open_numsF Tryz.underlying34 Tryz.underlying22 (by kernel_rfl) g1
  exact ⟨⟨a, n, c, ms, b, m, d, ns⟩, hl, q1, fun x hx => wf_i64 (q2 x hx), q3, q4, fun x hx => U64.wf (q5 x hx), q6⟩
theorem open_reveal {H : Type} {enc : TypeId × Value → H} {w : World} {base : Nat} {held : Bool} {r : Reach} {b0 : Nat} {v : Value} {d : DataW H} {p : List MemPlace} (hv : Value.okWide Tryz.prog w r b0 36 v) (h : DataW.Trod enc Tryz.prog w base (fun _ => true) held 36 v d p) :
    ∃ R : Rv, v = R.v ∧ RvIn w R := by
  obtain ⟨cs, rfl, hsz⟩ := okWide_struct Tryz.underlying36 hv
  obtain ⟨fuel, hf⟩ := h
  simp only [Value.cells] at hf
  have h2 : cs.toList.length = 2 := by rw [Array.length_toList, hsz]; kernel_rfl
  obtain ⟨R, hl, hR⟩ := reveal_cells h2 hf
  refine ⟨R, ?_, hR⟩
  unfold Rv.v
  congr 1
  exact Array.toList_inj.1 hl
open Go.ChangeShapes Go.WideShapes Go.ChangeAt Go.RowKit
theorem okWide_array {P : Program} {w : World} {r : Reach} {b0 : Nat} {t : TypeId} {n : Nat} {e : TypeId} {v : Value} (ht : P.underlying t = some (.array n e)) (h : Value.okWide P w r b0 t v) : ∃ cs, v = .agg cs ∧ cs.size = P.cellsOf t := by
 unfold Value.okWide at h
 rw [ht] at h
 obtain ⟨cs, h1, h2, _⟩ := h
 exact ⟨cs, h1, h2⟩
section
variable {H : Type} {enc : TypeId × Value → H} {w : World} {base : Nat} {spare : Nat → Bool} {held : Bool} {r : Reach} {b0 : Nat} {v : Value} {d : DataW H} {p : List MemPlace}
theorem open_d32 (hv : Value.okWide Tryz.prog w r b0 26 v) (h : DataW.Trod enc Tryz.prog w base spare held 26 v d p) :
    ∃ bs : List Int, v = .agg (byteV bs) ∧ bs.length = 32 ∧ Bytes bs := by
  obtain ⟨cs, rfl, hsz⟩ := okWide_array Tryz.underlying26 hv
  obtain ⟨fuel, hf⟩ := h
  simp only [Value.cells] at hf
  obtain ⟨xs, m, _, _, hl, hn, hx⟩ := DataW.trod_array Tryz.underlying26 hf
  have h1 : Tryz.prog.cellsOf 5 = 1 := by kernel_rfl
  have h32 : cs.size = 32 := by rw [hsz]; kernel_rfl
  have key : ∀ i (hi : i < cs.toList.length), ∃ n, cs.toList[i] = .int .u8 n ∧ (Lit.int .u8 n).wf = true := by
   intro i hi
   have hi' : i < 32 := by simpa [h32] using hi
   have := hx i hi'
   rw [h1, Nat.mul_one, List.getElem?_eq_getElem (by omega)] at this
   obtain ⟨n, e, _, hw⟩ := DataW.trod_int Tryz.underlying5 this
   refine ⟨n, ?_, hw⟩
   rw [List.drop_eq_getElem_cons hi] at e
   simpa using e
  refine ⟨cs.toList.map intOf, ?_, by simp [h32], ?_⟩
  · congr 1
    apply Array.toList_inj.1
    unfold byteV
    simp only [List.map_map]
    apply List.ext_getElem
    · simp
    · intro i h1 h2
      obtain ⟨n, e, _⟩ := key i h1
      simp only [List.getElem_map, Function.comp]
      rw [e]; rfl
  · intro b hb
    obtain ⟨c, hc, rfl⟩ := List.mem_map.1 hb
    obtain ⟨i, hi, rfl⟩ := List.getElem_of_mem hc
    obtain ⟨n, e, hw⟩ := key i hi
    rw [e]
    have := bounds_u8 hw
    exact ⟨this.1, by have := this.2; show n < 256; omega⟩
end
theorem open_boolT {H : Type} {enc : TypeId × Value → H} {w : World} {base : Nat} {spare : Nat → Bool} {held : Bool} {r : Reach} {b0 : Nat} {v : Value} {d : DataW H} {p : List MemPlace} (hv : Value.okWide Tryz.prog w r b0 4 v) (h : DataW.Trod enc Tryz.prog w base spare held 4 v d p) : ∃ b, v = .bool b ∧ True := by
 obtain ⟨x, e, -⟩ := open_bool Tryz.underlying4 hv h
 exact ⟨x, e, trivial⟩
end Go.Proofs.YtlbldpkgnonbpaaGreatDoor
