/- The reference's Challenge. -/
import Derived.Test.YtlbldpkgnonbpaaGreatDoorQs5
import Derived.Test.YtlbldpkgnonbpaaGreatDoorQs0
import Derived.Test.YtlbldpkgnonbpaaGreatDoorQsS
import Derived.Test.YtlbldpkgnonbpaaGreatDoorQsB
import Derived.Test.YtlbldpkgnonbpaaGreatDoorQs1
import Derived.Test.YtlbldpkgnonbpaaGreatDoorRows
set_option linter.unusedSimpArgs false
set_option linter.unusedVariables false
set_option maxRecDepth 100000
namespace Go.Proofs.YtlbldpkgnonbpaaGreatDoor
open Go Go.RowKit Num Sha
theorem rrevealedI_any {P Q G n : Int} {R : Rv} {v : Bool} (w : World) (h0 : 0 ≤ n) (hR : RvIn w R) (hrn : R.n ≤ 1000) (hn : n ≤ 1000) (hrm : R.m ≤ 1000) (hv : v = true ↔ rangeP Q n.toNat R) :
 Calls Tryz.prog 39 #[(.agg #[υ P, υ Q, υ G]), .int .i64 n, R.v] w fun e w' => e = .returned (.bool v) ∧ Below w.heap.size w w' := by
 obtain ⟨j, rfl⟩ : ∃ j : Nat, n = (j : Int) := ⟨n.toNat, by omega⟩
 exact rrevealed_any w hR hrn (by omega) hrm (by simpa using hv)
theorem rIsI_any {P Q G y n : Int} {V : Vt} {R : Rv} {v : Bool} (w : World) (h0 : 0 ≤ n) (hH : Has P Q G) (y0 : 0 ≤ y) (yP : y < P) (hn : n ≤ 10) (hV : VtIn w V) (hR : RvIn w R) (hrg : rangeP Q n.toNat R) (hrn : R.n ≤ 1000) (hv : v = true ↔ matchP P G y n.toNat V R) :
 Calls Tryz.prog 40 #[(.agg #[υ P, υ Q, υ G]), υ y, .int .i64 n, V.v, R.v] w fun e w' => e = .returned (.bool v) ∧ Below w.heap.size w w' := by
 obtain ⟨j, rfl⟩ : ∃ j : Nat, n = (j : Int) := ⟨n.toNat, by omega⟩
 exact rIs_any w hH y0 yP (by omega) hV hR (by simpa using hrg) hrn (by simpa using hv)
set_option maxHeartbeats 16000000 in
theorem rChal36_any {P Q G y n : Int} {one : Bool} {B : Bo} {V : Vt} {R : Rv} (w : World) (hT : Tabs w) (hP : 0 ≤ P) (hQ : 0 ≤ Q) (hG : 0 ≤ G) (hy : 0 ≤ y) (hB : BoIn w B) (hs : BoSm B) (hV : VtIn w V) (hR : RvIn w R) (hn9 : V.n ≤ 10000) (hm9 : V.m ≤ 10000) (hrn : R.n ≤ 1000) (hrm : R.m ≤ 1000) :
 Calls Tryz.prog 19 #[.agg #[υ P, υ Q, υ G], υ y, .int .i64 n, .bool one, B.v, V.v, R.v] w (ChaR w P Q G y n one B V R) := by
 have HT := Lh hT
 have HB := Lh hB
 have HS := Lh hs
 have HV := Lh hV
 have HR := Lh hR
 clear hT hB hs hV hR
 have hBs : B.n ≤ 1000 ∧ B.m ≤ 1000 ∧ B.k ≤ 1000 := by have := HS.o.s1; have := HS.o.s2; omega
 unfold Bo.v Vt.v Rv.v
 obtain ⟨F_g, F_b, F_v, F_r, F_o, HBW⟩ := bx5 w [υ P, υ Q, υ G] 24 [.slice B.a B.n B.c, .slice B.b B.m B.d, .slice B.e B.k B.f] 55 V.cl 33 [.slice R.a R.n R.c, .slice R.b R.m R.d] 36 [.slice none 0 0, .slice none 0 0, .slice none 0 0] 55
 go_enter Tryz.func19, Tryz.ntmps19
 obtain ⟨qg0, qg1, qg2⟩ := F_g.o.k3
 obtain ⟨qb0, qb1, qb2⟩ := F_b.o.k3
 obtain ⟨⟨qv0, qv1, qv2, qv3, qv4, qv5, qv6, qv7, qv8, qv9, qva⟩, -⟩ := F_v.o.k11
 go_wp2_with fail
 clear qg0 qg1 qg2 qb0 qb1 qb2 qv0 qv1 qv2 qv3 qv4 qv5 qv6 qv7 qv8 qv9 qva
 obtain ⟨k, e', hA⟩ := AdmS.exists P Q G y n one B V
 refine (rTake_any (V := V) _ (HT.o.below HBW.o) hP hQ hG hy (HB.o.keep HBW.o) HS.o (HV.o.keep HBW.o) hA).mono ?_
 rintro e w1 ⟨rfl, hb1⟩
 have HA := Lh hA
 clear hA
 replace F_g := Lh (F_g.o.keep hb1)
 replace F_b := Lh (F_b.o.keep hb1)
 replace F_v := Lh (F_v.o.keep hb1)
 replace F_r := Lh (F_r.o.keep hb1)
 replace F_o := Lh (F_o.o.keep hb1)
 replace HBW := Kt HBW hb1
 clear hb1
 by_cases he : e' = 0
 case neg =>
  have HE := Lh he
  have hd : (e' == (0 : Int)) = false := beq_eq_false_iff_ne.2 he
  have hd2 : (e' != (0 : Int)) = true := by rw [bne, hd]; rfl
  have qo0 := F_o.o.c 0 _ rfl
  have qf0 := F_o.o.f 0
  have qo1 := F_o.o.c 1 _ rfl
  have qf1 := F_o.o.f 1
  have qo2 := F_o.o.c 2 _ rfl
  have qf2 := F_o.o.f 2
  go_wp2_with fail
  have F_q := Lh (((F_o.o.set (m := [.slice none 0 0, .slice none 0 0, .slice none 0 0]) 0 (.slice none 0 0) (by simp) rfl).set (m := [.slice none 0 0, .slice none 0 0, .slice none 0 0]) 1 (.slice none 0 0) (by simp) rfl).set (m := [.slice none 0 0, .slice none 0 0, .slice none 0 0]) 2 (.slice none 0 0) (by simp) rfl)
  have HB8 := Lh (((HBW.o.setCell (p := ⟨(w.heap.size + 1 + 1 + 1 + 1), 0, none⟩) (by first | omega | (simp <;> omega)) (.slice none 0 0)).setCell (p := ⟨(w.heap.size + 1 + 1 + 1 + 1), 1, none⟩) (by first | omega | (simp <;> omega)) (.slice none 0 0)).setCell (p := ⟨(w.heap.size + 1 + 1 + 1 + 1), 2, none⟩) (by first | omega | (simp <;> omega)) (.slice none 0 0))
  refine bodyPost_ret (res_booth2 rfl F_q.o _ rfl rfl) rfl ?_
  exact ⟨HB8.o, k, e', HA.o, .inl ⟨HE.o, rfl⟩⟩
 case pos =>
 subst he
 have HKC := Lh HA.o.count.2.2.2.2
 have HCK := Lh (chkB_ok HA.o.count.1)
 have hnn := HCK.o.2.2
 obtain ⟨b1, hb1⟩ := Prop.bool (rangeP Q n.toNat R)
 obtain ⟨b2, hb2⟩ := Prop.bool (matchP P G y n.toNat V R)
 have HB1 := Lh hb1
 have HB2 := Lh hb2
 clear hb1 hb2
 obtain ⟨qg0, qg1, qg2⟩ := F_g.o.k3
 obtain ⟨qr0, qr1⟩ := F_r.o.k2
 go_wp2_with fail
 clear qg0 qg1 qg2 qr0 qr1
 refine (rrevealedI_any (R := R) _ (by omega) (HR.o.keep HBW.o) hrn (by omega) hrm HB1.o).mono ?_
 rintro e w2 ⟨rfl, hbq⟩
 replace F_g := Lh (F_g.o.keep hbq)
 replace F_b := Lh (F_b.o.keep hbq)
 replace F_v := Lh (F_v.o.keep hbq)
 replace F_r := Lh (F_r.o.keep hbq)
 replace F_o := Lh (F_o.o.keep hbq)
 replace HBW := Kt HBW hbq
 clear hbq
 cases b1 with
 | false =>
  have HNR := Lh (show ¬ (rangeP Q n.toNat R ∧ matchP P G y n.toNat V R) from fun h => by have := HB1.o.2 h.1; cases this)
  have qo0 := F_o.o.c 0 _ rfl
  have qf0 := F_o.o.f 0
  have qo1 := F_o.o.c 1 _ rfl
  have qf1 := F_o.o.f 1
  have qo2 := F_o.o.c 2 _ rfl
  have qf2 := F_o.o.f 2
  go_wp2_with fail
  have F_q := Lh (((F_o.o.set (m := [.slice none 0 0, .slice none 0 0, .slice none 0 0]) 0 (.slice none 0 0) (by simp) rfl).set (m := [.slice none 0 0, .slice none 0 0, .slice none 0 0]) 1 (.slice none 0 0) (by simp) rfl).set (m := [.slice none 0 0, .slice none 0 0, .slice none 0 0]) 2 (.slice none 0 0) (by simp) rfl)
  have HB8 := Lh (((HBW.o.setCell (p := ⟨(w.heap.size + 1 + 1 + 1 + 1), 0, none⟩) (by first | omega | (simp <;> omega)) (.slice none 0 0)).setCell (p := ⟨(w.heap.size + 1 + 1 + 1 + 1), 1, none⟩) (by first | omega | (simp <;> omega)) (.slice none 0 0)).setCell (p := ⟨(w.heap.size + 1 + 1 + 1 + 1), 2, none⟩) (by first | omega | (simp <;> omega)) (.slice none 0 0))
  refine bodyPost_ret (res_booth2 rfl F_q.o _ rfl rfl) rfl ?_
  exact ⟨HB8.o, _, _, HA.o, .inr ⟨rfl, .inl ⟨HNR.o, rfl⟩⟩⟩
 | true =>
 have HRG := Lh (show rangeP Q n.toNat R by first | exact HB1.o.1 rfl | exact HB1.o.1 trivial)
 obtain ⟨qg0, qg1, qg2⟩ := F_g.o.k3
 obtain ⟨⟨qv0, qv1, qv2, qv3, qv4, qv5, qv6, qv7, qv8, qv9, qva⟩, -⟩ := F_v.o.k11
 obtain ⟨qr0, qr1⟩ := F_r.o.k2
 go_wp2_with fail
 clear qg0 qg1 qg2 qv0 qv1 qv2 qv3 qv4 qv5 qv6 qv7 qv8 qv9 qva qr0 qr1
 refine (rIsI_any (V := V) (R := R) _ (by omega) HCK.o.1 hy HCK.o.2.1 (by omega) (HV.o.keep HBW.o) (HR.o.keep HBW.o) HRG.o hrn HB2.o).mono ?_
 rintro e w3 ⟨rfl, hbq⟩
 replace F_g := Lh (F_g.o.keep hbq)
 replace F_b := Lh (F_b.o.keep hbq)
 replace F_v := Lh (F_v.o.keep hbq)
 replace F_r := Lh (F_r.o.keep hbq)
 replace F_o := Lh (F_o.o.keep hbq)
 replace HBW := Kt HBW hbq
 clear hbq
 cases b2 with
 | false =>
  have HNR := Lh (show ¬ (rangeP Q n.toNat R ∧ matchP P G y n.toNat V R) from fun h => by have := HB2.o.2 h.2; cases this)
  have qo0 := F_o.o.c 0 _ rfl
  have qf0 := F_o.o.f 0
  have qo1 := F_o.o.c 1 _ rfl
  have qf1 := F_o.o.f 1
  have qo2 := F_o.o.c 2 _ rfl
  have qf2 := F_o.o.f 2
  go_wp2_with fail
  have F_q := Lh (((F_o.o.set (m := [.slice none 0 0, .slice none 0 0, .slice none 0 0]) 0 (.slice none 0 0) (by simp) rfl).set (m := [.slice none 0 0, .slice none 0 0, .slice none 0 0]) 1 (.slice none 0 0) (by simp) rfl).set (m := [.slice none 0 0, .slice none 0 0, .slice none 0 0]) 2 (.slice none 0 0) (by simp) rfl)
  have HB8 := Lh (((HBW.o.setCell (p := ⟨(w.heap.size + 1 + 1 + 1 + 1), 0, none⟩) (by first | omega | (simp <;> omega)) (.slice none 0 0)).setCell (p := ⟨(w.heap.size + 1 + 1 + 1 + 1), 1, none⟩) (by first | omega | (simp <;> omega)) (.slice none 0 0)).setCell (p := ⟨(w.heap.size + 1 + 1 + 1 + 1), 2, none⟩) (by first | omega | (simp <;> omega)) (.slice none 0 0))
  refine bodyPost_ret (res_booth2 rfl F_q.o _ rfl rfl) rfl ?_
  exact ⟨HB8.o, _, _, HA.o, .inr ⟨rfl, .inl ⟨HNR.o, rfl⟩⟩⟩
 | true =>
 have HYES := Lh (show rangeP Q n.toNat R ∧ matchP P G y n.toNat V R from ⟨HRG.o, by first | exact HB2.o.1 rfl | exact HB2.o.1 trivial⟩)
 have hkc := HKC.o
 have hw0 : IntKind.i64.wrap ((B.n : Int) + (B.m : Int)) = (B.n : Int) + (B.m : Int) := IntWalk.i64_in _ (by omega)
 clear hnn
 by_cases hk : k = 256
 case pos =>
  have hd : ((B.n : Int) + (B.m : Int) == (256 : Int)) = true := beq_iff_eq.2 (by omega)
  have HK := Lh hk
  clear hkc HKC
  subst hk
  obtain ⟨qb0, qb1, -⟩ := F_b.o.k3
  have qo0 := F_o.o.c 0 _ rfl
  have qf0 := F_o.o.f 0
  have qo1 := F_o.o.c 1 _ rfl
  have qf1 := F_o.o.f 1
  have qo2 := F_o.o.c 2 _ rfl
  have qf2 := F_o.o.f 2
  go_wp2_with fail
  have F_q := Lh (((F_o.o.set (m := [.slice none 0 0, .slice none 0 0, .slice none 0 0]) 0 (.slice none 0 0) (by simp) rfl).set (m := [.slice none 0 0, .slice none 0 0, .slice none 0 0]) 1 (.slice none 0 0) (by simp) rfl).set (m := [.slice none 0 0, .slice none 0 0, .slice none 0 0]) 2 (.slice none 0 0) (by simp) rfl)
  have HB8 := Lh (((HBW.o.setCell (p := ⟨(w.heap.size + 1 + 1 + 1 + 1), 0, none⟩) (by first | omega | (simp <;> omega)) (.slice none 0 0)).setCell (p := ⟨(w.heap.size + 1 + 1 + 1 + 1), 1, none⟩) (by first | omega | (simp <;> omega)) (.slice none 0 0)).setCell (p := ⟨(w.heap.size + 1 + 1 + 1 + 1), 2, none⟩) (by first | omega | (simp <;> omega)) (.slice none 0 0))
  refine bodyPost_ret (res_booth2 rfl F_q.o _ rfl rfl) rfl ?_
  exact ⟨HB8.o, _, _, HA.o, .inr ⟨rfl, .inr ⟨HYES.o, .inl ⟨rfl, rfl⟩⟩⟩⟩
 case neg =>
 have hd : ((B.n : Int) + (B.m : Int) == (256 : Int)) = false := beq_eq_false_iff_ne.2 (by omega)
 have HK := Lh hk
 clear hk hkc
 obtain ⟨qb0, qb1, qb2⟩ := F_b.o.k3
 go_wp2_with fail
 clear qb0 qb1 qb2
 refine (rTwin_any _ (HB.o.keep HBW.o) HS.o).mono ?_
 rintro e w2 ⟨⟨v1, v2, v3, N1, N2, N3, rfl, hn1, hn2, hn3, hn4, hr1, hr2, hr3⟩, hb2⟩
 have hlt0 := F_o.o.lt
 obtain ⟨n0, hn0⟩ : ∃ n, w3.heap.size = n := ⟨_, rfl⟩
 rw [hn0] at hlt0 hn1 hr1
 obtain ⟨a1, c1, rfl⟩ := hr1.slice
 obtain ⟨a2, c2, rfl⟩ := hr2.slice
 obtain ⟨a3, c3, rfl⟩ := hr3.slice
 replace F_v := Lh (F_v.o.keep hb2)
 replace F_r := Lh (F_r.o.keep hb2)
 replace F_o := Lh (F_o.o.keep hb2)
 replace HBW := Kt HBW hb2
 have HD1 := Lh hr1
 have HD2 := Lh hr2
 have HD3 := Lh hr3
 clear hb2 hr1 hr2 hr3 hn0 F_b
 obtain ⟨wo, rfl⟩ : ∃ wo, wo = w2 := ⟨_, rfl⟩
 go_wp2_with fail
 have F_t := Lh (Cl.at wo [.slice a1 B.n c1, .slice a2 B.m c2, .slice a3 B.k c3] 55 wo.heap.size rfl)
 replace F_v := Lh (F_v.o.alloc (.cells #[.slice a1 B.n c1, .slice a2 B.m c2, .slice a3 B.k c3] 55))
 replace F_r := Lh (F_r.o.alloc (.cells #[.slice a1 B.n c1, .slice a2 B.m c2, .slice a3 B.k c3] 55))
 replace F_o := Lh (F_o.o.alloc (.cells #[.slice a1 B.n c1, .slice a2 B.m c2, .slice a3 B.k c3] 55))
 replace HBW := Lh (HBW.o.alloc HBW.o.size (.cells #[.slice a1 B.n c1, .slice a2 B.m c2, .slice a3 B.k c3] 55))
 obtain ⟨HX, hHX⟩ : ∃ B, B = wo.heap.size := ⟨_, rfl⟩
 have hls : HX < (wo.alloc (.cells #[.slice a1 B.n c1, .slice a2 B.m c2, .slice a3 B.k c3] 55)).heap.size := by rw [hHX]; simp
 rw [← hHX] at F_t hn4 ⊢
 clear hHX
 have HPS := Lh (show n0 ≤ N3 by omega)
 have HR1 := Lh ((HD1.o.rp (fun b => n0 ≤ b ∧ b < N1) (fun b h1 h2 => ⟨h1, h2⟩)).alloc (.cells #[.slice a1 B.n c1, .slice a2 B.m c2, .slice a3 B.k c3] 55))
 have HR2 := Lh ((HD2.o.rp (fun b => (N1 ≤ b ∧ b < N2) ∨ HX < b) (fun b h1 h2 => .inl ⟨h1, h2⟩)).alloc (.cells #[.slice a1 B.n c1, .slice a2 B.m c2, .slice a3 B.k c3] 55))
 have HR3 := Lh ((HD3.o.rp (fun b => (N2 ≤ b ∧ b < N3) ∨ HX < b) (fun b h1 h2 => .inl ⟨h1, h2⟩)).alloc (.cells #[.slice a1 B.n c1, .slice a2 B.m c2, .slice a3 B.k c3] 55))
 have HOG2 := Lh (show ∀ g, (Value.slice a2 B.m c2).ownBlock = some g → N1 ≤ g ∧ g < N2 from fun g hg => ⟨(HD2.o.choose_spec.1.lt g hg).1, HD2.o.choose_spec.2.1 g hg⟩)
 have HOF2 := Lh (show ∀ g, (Value.slice a2 B.m c2).ownBlock = some g → g < HX + 1 from fun g hg => by have := (HOG2.o g hg).2; omega)
 have HOG3 := Lh (show ∀ g, (Value.slice a3 B.k c3).ownBlock = some g → N2 ≤ g ∧ g < N3 from fun g hg => ⟨(HD3.o.choose_spec.1.lt g hg).1, HD3.o.choose_spec.2.1 g hg⟩)
 have HOF3 := Lh (show ∀ g, (Value.slice a3 B.k c3).ownBlock = some g → g < HX + 1 from fun g hg => by have := (HOG3.o g hg).2; omega)
 obtain ⟨wx, hwx⟩ : ∃ wx, wx = wo.alloc (.cells #[.slice a1 B.n c1, .slice a2 B.m c2, .slice a3 B.k c3] 55) := ⟨_, rfl⟩
 rw [← hwx] at F_t HR1 HR2 HR3 HBW hls F_v F_r F_o ⊢
 clear hwx HD1 HD2 HD3
 replace F_t := Lh F_t.o.drew
 replace F_v := Lh F_v.o.drew
 replace F_r := Lh F_r.o.drew
 replace F_o := Lh F_o.o.drew
 replace HR1 := Lh HR1.o.drew
 replace HR2 := Lh HR2.o.drew
 replace HR3 := Lh HR3.o.drew
 replace HBW := Lh HBW.o.drew
 have hS := (show Cl _ HX [.slice a1 B.n c1, .slice a2 B.m c2, .slice a3 B.k c3] ∧ Cl _ (w.heap.size + 1 + 1) V.cl from ⟨F_t.o, F_v.o⟩)
 refine wp_region_stage 5 (fun w' => Cl w' HX [.slice a1 B.n c1, .slice a2 B.m c2, .slice a3 B.k c3] ∧ Cl w' (w.heap.size + 1 + 1) V.cl) (by kernel_rfl) ?_
 refine tkQ 0 (some 61) (.fieldAddr 55 (.tmp 17) 1) 0 ?_
 simp only [sY]
 refine tkL (i := 1) (some 62) (.load 52 (.tmp 61)) 52 [5] (v := ?_) hS (fun w' hSw => ?_) ?_
 rotate_left
 · obtain ⟨s1, s2⟩ := hSw; have t1 := s1.c 1 _ rfl; obtain ⟨⟨q0, q1, q2, q3, q4, q5, q6, q7, q8, q9, q10⟩, -⟩ := s2.k11
   unfold bareOp; go_simp; try with_reducible rfl
 simp only [sY]
 refine tkL (i := 2) (some 63) (.load 33 (.tmp 12)) 33 [3, 4, 5] (v := ?_) hS (fun w' hSw => ?_) ?_
 rotate_left
 · obtain ⟨s1, s2⟩ := hSw; have t1 := s1.c 1 _ rfl; obtain ⟨⟨q0, q1, q2, q3, q4, q5, q6, q7, q8, q9, q10⟩, -⟩ := s2.k11
   unfold bareOp; go_simp; try with_reducible rfl
 simp only [sY]
 refine onl (i := 3) (some 64) (.call { callee := .value (.func 44), args := #[.tmp 63], argTypes := #[33] }) 33 (fun K hK => ?_)
 unfold bareOp
 go_wp2_with (go_at_call 44; refine (rTwinVote_any (V := V) _ (HV.o.keep HBW.o) hn9 hm9).mono ?_; rintro e w5 ⟨U, rfl, hU5, hS5, hh1, hh2, hb5⟩)
 replace F_t := Lh (F_t.o.keep hb5)
 replace F_v := Lh (F_v.o.keep hb5)
 replace F_r := Lh (F_r.o.keep hb5)
 replace F_o := Lh (F_o.o.keep hb5)
 replace HR1 := Lh (HR1.o.keep hb5)
 replace HR2 := Lh (HR2.o.keep hb5)
 replace HR3 := Lh (HR3.o.keep hb5)
 replace HBW := Kt HBW hb5
 replace hS := (show Cl _ HX [.slice a1 B.n c1, .slice a2 B.m c2, .slice a3 B.k c3] ∧ Cl _ (w.heap.size + 1 + 1) V.cl from ⟨F_t.o, F_v.o⟩)
 have HU5 := Lh hU5
 have HS5 := Lh hS5
 have HH5 := Lh (show highB U.a U.n (HX + 1) ∧ highB U.b U.m (HX + 1) from ⟨hh1.mono (by (try simp only [World.size_drew, World.size_setCell]); omega), hh2.mono (by (try simp only [World.size_drew, World.size_setCell]); omega)⟩)
 have hz5 := hb5.size
 have hls5 : HX < w5.heap.size := by (try simp only [World.size_drew, World.size_setCell] at hz5); omega
 unfold Vt.v
 clear hb5 hU5 hS5 hz5 hh1 hh2
 refine hK.o _ _ (fun _ => hS) ?_
 clear hK K
 try simp only [sY]
 refine onl (i := 4) (some 65) (.buildSlice 52 1 #[(0, .tmp 64)]) 52 (fun K hK => ?_)
 unfold bareOp
 go_wp2_with fail
 replace F_t := Lh (F_t.o.alloc (.cells U.ca 33))
 replace F_v := Lh (F_v.o.alloc (.cells U.ca 33))
 replace F_r := Lh (F_r.o.alloc (.cells U.ca 33))
 replace F_o := Lh (F_o.o.alloc (.cells U.ca 33))
 replace HR1 := Lh (HR1.o.alloc (.cells U.ca 33))
 replace HR2 := Lh (HR2.o.alloc (.cells U.ca 33))
 replace HR3 := Lh (HR3.o.alloc (.cells U.ca 33))
 replace HBW := Lh (HBW.o.alloc HBW.o.size (.cells U.ca 33))
 replace hS := (show Cl _ HX [.slice a1 B.n c1, .slice a2 B.m c2, .slice a3 B.k c3] ∧ Cl _ (w.heap.size + 1 + 1) V.cl from ⟨F_t.o, F_v.o⟩)
 replace HU5 := Lh (HU5.o.keep ((Below.refl _ _).alloc (Nat.le_refl _) (.cells U.ca 33)))
 refine hK.o _ _ (fun _ => hS) ?_
 clear hK K
 try simp only [sY]
 refine onl (i := 5) (some 66) (.call { callee := .builtin .append, args := #[.tmp 62, .tmp 65], argTypes := #[52, 52] }) 52 (fun K hK => ?_)
 unfold bareOp
 refine wp_pushV (.tmp 62) (.tmp 65) rfl (fun b => (N1 ≤ b ∧ b < N2) ∨ HX < b) B.m w5.heap.size (.slice a2 B.m c2) B.l' U V rfl rfl HR2.o (cell_list_at _ _ _ _ rfl) (by omega) (.inr (by simp <;> omega)) HU5.o ⟨HH5.o.1.off HOF2.o, HH5.o.2.off HOF2.o⟩ ⟨HH5.o.1.inB _ (fun b hb => .inr (by omega)), HH5.o.2.inB _ (fun b hb => .inr (by omega))⟩ HS5.o.key ?_
 intro a9 c9 w9 hR9 hg9
 replace HR2 := Lh hR9
 replace HR1 := Lh (HR1.o.grown hg9 (fun g hg => by have := (HOG2.o g hg); simp only [not_and, not_or, Nat.not_lt]; omega))
 replace HR3 := Lh (HR3.o.grown hg9 (fun g hg => by have := (HOG2.o g hg); simp only [not_and, not_or, Nat.not_lt]; omega))
 have HB9 := Lh (Below.rowT (n := n0) hg9 (fun g hg => by have := (HOG2.o g hg).1; omega) (by simp <;> omega))
 replace F_v := Lh (F_v.o.keepN HB9.o (by omega))
 replace F_r := Lh (F_r.o.keepN HB9.o (by omega))
 replace F_o := Lh (F_o.o.keepN HB9.o (by omega))
 replace F_t := Lh (F_t.o.grownX hg9 (fun g hg => by have := (HOG2.o g hg).2; omega))
 replace HBW := Lh (HBW.o.trans (HB9.o.mono (by omega)))
 have hz9 := hg9.size
 have hlsw9 : HX < w9.heap.size := by simp at hz9; omega
 replace hS := (show Cl _ HX [.slice a1 B.n c1, .slice a2 B.m c2, .slice a3 B.k c3] ∧ Cl _ (w.heap.size + 1 + 1) V.cl from ⟨F_t.o, F_v.o⟩)
 clear HB9 hR9 hg9 hz9
 refine hK.o _ _ lt8 ?_
 clear hK K
 try simp only [sY]
 refine tkP (i := 6) (some 67) (.fieldAddr 55 (.tmp 17) 1) 0 lt8 ?_
 simp only [sY]
 have q1 := F_t.o.c 1 _ rfl
 have qf1 := F_t.o.f 1
 refine onl (i := 7) none (.store 52 (.tmp 67) (.tmp 66)) 0 (fun K hK => ?_)
 unfold bareOp
 go_wp2_with fail
 refine hK.o _ _ lt8 ?_
 clear hK K
 try simp only [sY]
 refine wpAnyB_done (by kernel_rfl) ?_ _
 replace F_t := Lh (F_t.o.set (m := [.slice a1 B.n c1, .slice a9 (B.m + 1) c9, .slice a3 B.k c3]) 1 (.slice a9 (B.m + 1) c9) (by simp) rfl)
 replace F_o := Lh (F_o.o.far ⟨HX, 1, none⟩ (.slice a9 (B.m + 1) c9) (by simp <;> omega))
 replace F_r := Lh (F_r.o.far ⟨HX, 1, none⟩ (.slice a9 (B.m + 1) c9) (by simp <;> omega))
 replace F_v := Lh (F_v.o.far ⟨HX, 1, none⟩ (.slice a9 (B.m + 1) c9) (by simp <;> omega))
 replace HR1 := Lh (HR1.o.set ⟨HX, 1, none⟩ (.slice a9 (B.m + 1) c9) (by simp <;> omega))
 replace HR2 := Lh (HR2.o.set ⟨HX, 1, none⟩ (.slice a9 (B.m + 1) c9) (by simp <;> omega))
 replace HR3 := Lh (HR3.o.set ⟨HX, 1, none⟩ (.slice a9 (B.m + 1) c9) (by simp <;> omega))
 replace HBW := Lh (HBW.o.setCell (p := ⟨HX, 1, none⟩) (by simp <;> omega) (.slice a9 (B.m + 1) c9))
 go_wp2_with fail
 replace F_t := Lh F_t.o.drew
 replace F_v := Lh F_v.o.drew
 replace F_r := Lh F_r.o.drew
 replace F_o := Lh F_o.o.drew
 replace HR1 := Lh HR1.o.drew
 replace HR2 := Lh HR2.o.drew
 replace HR3 := Lh HR3.o.drew
 replace HBW := Lh HBW.o.drew
 have hS := (show Cl _ HX [.slice a1 B.n c1, .slice a9 (B.m + 1) c9, .slice a3 B.k c3] ∧ Cl _ (w.heap.size + 1 + 1 + 1) [.slice R.a R.n R.c, .slice R.b R.m R.d] from ⟨F_t.o, F_r.o⟩)
 refine wp_region_stage 5 (fun w' => Cl w' HX [.slice a1 B.n c1, .slice a9 (B.m + 1) c9, .slice a3 B.k c3] ∧ Cl w' (w.heap.size + 1 + 1 + 1) [.slice R.a R.n R.c, .slice R.b R.m R.d]) (by kernel_rfl) ?_
 refine tkQ 0 (some 68) (.fieldAddr 55 (.tmp 17) 2) 0 ?_
 simp only [sY]
 refine tkL (i := 1) (some 69) (.load 53 (.tmp 68)) 53 [5] (v := ?_) hS (fun w' hSw => ?_) ?_
 rotate_left
 · obtain ⟨s1, s3⟩ := hSw; have t2 := s1.c 2 _ rfl; have r0 := s3.c 0 _ rfl; have r1 := s3.c 1 _ rfl
   unfold bareOp; go_simp; try with_reducible rfl
 simp only [sY]
 refine tkL (i := 2) (some 70) (.load 36 (.tmp 13)) 36 [3, 4, 5] (v := ?_) hS (fun w' hSw => ?_) ?_
 rotate_left
 · obtain ⟨s1, s3⟩ := hSw; have t2 := s1.c 2 _ rfl; have r0 := s3.c 0 _ rfl; have r1 := s3.c 1 _ rfl
   unfold bareOp; go_simp; try with_reducible rfl
 simp only [sY]
 refine onl (i := 3) (some 71) (.call { callee := .value (.func 45), args := #[.tmp 70], argTypes := #[36] }) 36 (fun K hK => ?_)
 unfold bareOp
 go_wp2_with (go_at_call 45; refine (rTwinReveal_any (R := R) _ (HR.o.keep HBW.o) (by omega) (by omega)).mono ?_; rintro e w7 ⟨T, rfl, hU5, hS5, hh1, hh2, hb5⟩)
 replace F_t := Lh (F_t.o.keep hb5)
 replace F_v := Lh (F_v.o.keep hb5)
 replace F_r := Lh (F_r.o.keep hb5)
 replace F_o := Lh (F_o.o.keep hb5)
 replace HR1 := Lh (HR1.o.keep hb5)
 replace HR2 := Lh (HR2.o.keep hb5)
 replace HR3 := Lh (HR3.o.keep hb5)
 replace HBW := Kt HBW hb5
 replace hS := (show Cl _ HX [.slice a1 B.n c1, .slice a9 (B.m + 1) c9, .slice a3 B.k c3] ∧ Cl _ (w.heap.size + 1 + 1 + 1) [.slice R.a R.n R.c, .slice R.b R.m R.d] from ⟨F_t.o, F_r.o⟩)
 have HU7 := Lh hU5
 have HS7 := Lh hS5
 have HH7 := Lh (show highB T.a T.n (HX + 1) ∧ highB T.b T.m (HX + 1) from ⟨hh1.mono (by (try simp only [World.size_drew, World.size_setCell]); omega), hh2.mono (by (try simp only [World.size_drew, World.size_setCell]); omega)⟩)
 have hz5 := hb5.size
 have hls7 : HX < w7.heap.size := by (try simp only [World.size_drew, World.size_setCell] at hz5); omega
 unfold Rv.v
 clear hb5 hU5 hS5 hz5 hh1 hh2
 refine hK.o _ _ (fun _ => hS) ?_
 clear hK K
 try simp only [sY]
 refine onl (i := 4) (some 72) (.buildSlice 53 1 #[(0, .tmp 71)]) 53 (fun K hK => ?_)
 unfold bareOp
 go_wp2_with fail
 replace F_t := Lh (F_t.o.alloc (.cells #[.slice T.a T.n T.c, .slice T.b T.m T.d] 36))
 replace F_v := Lh (F_v.o.alloc (.cells #[.slice T.a T.n T.c, .slice T.b T.m T.d] 36))
 replace F_r := Lh (F_r.o.alloc (.cells #[.slice T.a T.n T.c, .slice T.b T.m T.d] 36))
 replace F_o := Lh (F_o.o.alloc (.cells #[.slice T.a T.n T.c, .slice T.b T.m T.d] 36))
 replace HR1 := Lh (HR1.o.alloc (.cells #[.slice T.a T.n T.c, .slice T.b T.m T.d] 36))
 replace HR2 := Lh (HR2.o.alloc (.cells #[.slice T.a T.n T.c, .slice T.b T.m T.d] 36))
 replace HR3 := Lh (HR3.o.alloc (.cells #[.slice T.a T.n T.c, .slice T.b T.m T.d] 36))
 replace HBW := Lh (HBW.o.alloc HBW.o.size (.cells #[.slice T.a T.n T.c, .slice T.b T.m T.d] 36))
 replace hS := (show Cl _ HX [.slice a1 B.n c1, .slice a9 (B.m + 1) c9, .slice a3 B.k c3] ∧ Cl _ (w.heap.size + 1 + 1 + 1) [.slice R.a R.n R.c, .slice R.b R.m R.d] from ⟨F_t.o, F_r.o⟩)
 replace HU7 := Lh (HU7.o.keep ((Below.refl _ _).alloc (Nat.le_refl _) (.cells #[.slice T.a T.n T.c, .slice T.b T.m T.d] 36)))
 refine hK.o _ _ (fun _ => hS) ?_
 clear hK K
 try simp only [sY]
 refine onl (i := 5) (some 73) (.call { callee := .builtin .append, args := #[.tmp 69, .tmp 72], argTypes := #[53, 53] }) 53 (fun K hK => ?_)
 unfold bareOp
 refine wp_pushR (.tmp 69) (.tmp 72) rfl (fun b => (N2 ≤ b ∧ b < N3) ∨ HX < b) B.k w7.heap.size (.slice a3 B.k c3) B.rs T R rfl rfl HR3.o (cell_list_at _ _ _ _ rfl) (by omega) (.inr (by simp <;> omega)) HU7.o ⟨HH7.o.1.off HOF3.o, HH7.o.2.off HOF3.o⟩ ⟨HH7.o.1.inB _ (fun b hb => .inr (by omega)), HH7.o.2.inB _ (fun b hb => .inr (by omega))⟩ HS7.o.key ?_
 intro a8 c8 w8 hR9 hg9
 replace HR3 := Lh hR9
 replace HR1 := Lh (HR1.o.grown hg9 (fun g hg => by have := (HOG3.o g hg); simp only [not_and, not_or, Nat.not_lt]; omega))
 replace HR2 := Lh (HR2.o.grown hg9 (fun g hg => by have := (HOG3.o g hg); simp only [not_and, not_or, Nat.not_lt]; omega))
 have HB9 := Lh (Below.rowT (n := n0) hg9 (fun g hg => by have := (HOG3.o g hg).1; omega) (by simp <;> omega))
 replace F_v := Lh (F_v.o.keepN HB9.o (by omega))
 replace F_r := Lh (F_r.o.keepN HB9.o (by omega))
 replace F_o := Lh (F_o.o.keepN HB9.o (by omega))
 replace F_t := Lh (F_t.o.grownX hg9 (fun g hg => by have := (HOG3.o g hg).2; omega))
 replace HBW := Lh (HBW.o.trans (HB9.o.mono (by omega)))
 have hz9 := hg9.size
 have hlsw8 : HX < w8.heap.size := by simp at hz9; omega
 clear HB9 hR9 hg9 hz9
 refine hK.o _ _ lt8 ?_
 clear hK K
 try simp only [sY]
 refine tkP (i := 6) (some 74) (.fieldAddr 55 (.tmp 17) 2) 0 lt8 ?_
 simp only [sY]
 have q2 := F_t.o.c 2 _ rfl
 have qf2 := F_t.o.f 2
 refine onl (i := 7) none (.store 53 (.tmp 74) (.tmp 73)) 0 (fun K hK => ?_)
 unfold bareOp
 go_wp2_with fail
 refine hK.o _ _ lt8 ?_
 clear hK K
 try simp only [sY]
 refine wpAnyB_done (by kernel_rfl) ?_ _
 replace F_t := Lh (F_t.o.set (m := [.slice a1 B.n c1, .slice a9 (B.m + 1) c9, .slice a8 (B.k + 1) c8]) 2 (.slice a8 (B.k + 1) c8) (by simp) rfl)
 replace F_o := Lh (F_o.o.far ⟨HX, 2, none⟩ (.slice a8 (B.k + 1) c8) (by simp <;> omega))
 replace F_r := Lh (F_r.o.far ⟨HX, 2, none⟩ (.slice a8 (B.k + 1) c8) (by simp <;> omega))
 replace F_v := Lh (F_v.o.far ⟨HX, 2, none⟩ (.slice a8 (B.k + 1) c8) (by simp <;> omega))
 replace HR1 := Lh (HR1.o.set ⟨HX, 2, none⟩ (.slice a8 (B.k + 1) c8) (by simp <;> omega))
 replace HR2 := Lh (HR2.o.set ⟨HX, 2, none⟩ (.slice a8 (B.k + 1) c8) (by simp <;> omega))
 replace HR3 := Lh (HR3.o.set ⟨HX, 2, none⟩ (.slice a8 (B.k + 1) c8) (by simp <;> omega))
 replace HBW := Lh (HBW.o.setCell (p := ⟨HX, 2, none⟩) (by simp <;> omega) (.slice a8 (B.k + 1) c8))
 go_wp2_with (first
  | (refine wpL_loadCl rfl 55 (.tmp 17) HX _ rfl rfl _ Tryz.underlying55 rfl (by kernel_rfl) F_t.o ?_)
  | (refine wpL_storeCl rfl 55 (.tmp 14) (.tmp 75) (w.heap.size + 1 + 1 + 1 + 1) 0 _ [.slice a1 B.n c1, .slice a9 (B.m + 1) c9, .slice a8 (B.k + 1) c8] [.slice a1 B.n c1, .slice a9 (B.m + 1) c9, .slice a8 (B.k + 1) c8] rfl rfl rfl rfl (by kernel_rfl) (by intro u hu; simp at hu; rcases hu with rfl | rfl | rfl <;> rfl) F_o.o (by simp) rfl ?_
     intro w8 hc8 hg8 hz8
     have F_q := Lh hc8
     have HG8 := Lh hg8
     clear hc8 hg8 hz8))
 refine bodyPost_ret (res_booth2 rfl F_q.o _ rfl rfl) rfl ?_
 refine ⟨HBW.o.trans (HG8.o.blw (n := w.heap.size) (by omega) HBW.o.size), _, _, HA.o, .inr ⟨rfl, .inr ⟨HYES.o, .inr ⟨HK.o, ?_⟩⟩⟩⟩
 have hng : ∀ g, some (w.heap.size + 1 + 1 + 1 + 1) = some g → g < n0 := fun g hg => by cases hg; exact hlt0
 exact BackB.of (lo := w.heap.size) (fun r hr => by have hq := hng _ rfl; refine ⟨?_, ?_, ?_⟩ <;> simp only [not_and, not_or, Nat.not_lt] <;> omega) (HR1.o.grown HG8.o.grown (fun g hg => by have := hng g hg; omega)) (HR2.o.grown HG8.o.grown (fun g hg => by have := hng g hg; omega)) (HR3.o.grown HG8.o.grown (fun g hg => by have := hng g hg; omega))
open Go.ChangeShapes Go.WideShapes Go.ChangeAt Go.RowKit Num
theorem open_numsF {P : Program} {H : Type} {enc : TypeId × Value → H} {w : World} {base : Nat} {held : Bool} {t e : TypeId} {q : IntKind} {fuel : Nat} {v0 : Value} {y : DataW H × List MemPlace} (ht : P.underlying t = some (.slice e)) (he : P.underlying e = some (.int q)) (hc1 : P.cellsOf e = 1) (hf : DataW.trod enc P w base (fun _ => true) held fuel t [v0] = some y) :
 ∃ a n c xs, v0 = .slice a n c ∧ ShI q w a n xs ∧ (∀ x, x ∈ xs → (Lit.int q x).wf = true) ∧ (a = none → c = 0) ∧ n ≤ c ∧ c ≤ 9223372036854775807 := by
 rcases open_ints ht he hc1 hf with ⟨hcs, -⟩ | ⟨a, len, cap, zs, hcs, -, hl, hm, hz, -, hcell, hw⟩
 · simp at hcs
   exact ⟨none, 0, 0, [], hcs, .inl ⟨rfl, rfl⟩, (fun q hq => by cases hq), (fun _ => rfl), Nat.le_refl _, Nat.zero_le _⟩
 · simp at hcs
   subst hcs
   have hmc : zs.length = cap := by simpa using hz
   by_cases hl0 : len = 0
   · subst hl0
     exact ⟨_, _, _, [], rfl, .inl ⟨rfl, rfl⟩, (fun q hq => by cases hq), (fun h => by cases h), hl, by unfold maxLen at hm; omega⟩
   · obtain ⟨b, off, spot⟩ := a
     have g0 := hcell 0 (by omega)
     have hspot : spot = none := by simpa [Addr.add] using World.cell?_spot g0
     subst hspot
     have hlt : b < w.heap.size := by
      have := World.block_lt_of_cell? w _ g0
      simpa [add_plain'] using this
     refine ⟨_, _, _, zs.take len, rfl, .inr ⟨b, off, rfl, by simp; omega, hlt, fun i hi => ?_⟩, fun z hz => hw z (List.mem_of_mem_take hz), (fun h => by cases h), hl, by unfold maxLen at hm; omega⟩
     have hi' : i < len ∧ i < zs.length := by simp at hi; omega
     have e : (zs.take len).getD i 0 = zs.getD i 0 := by simp [List.getD_eq_getElem?_getD, List.getElem?_take, hi'.1]
     rw [e, ← add_plain']; exact hcell i hi'.2
theorem wf_i64 {x : Int} (h : (Lit.int .i64 x).wf = true) : -9223372036854775808 ≤ x ∧ x ≤ 9223372036854775807 := by
 have h := bounds_i64 h
 exact ⟨h.1, by have := h.2; omega⟩
theorem reveal_cells {H : Type} {enc : TypeId × Value → H} {w : World} {base : Nat} {held : Bool} {fuel : Nat} {cs : List Value} {x : DataW H × List MemPlace} (h2 : cs.length = 2) (hf : DataW.trod enc Tryz.prog w base (fun _ => true) held fuel 36 cs = some x) : ∃ R : Rv, cs = [.slice R.a R.n R.c, .slice R.b R.m R.d] ∧ RvIn w R := by
 obtain ⟨x0, x1, hl⟩ := list2 _ h2
 rw [hl] at hf
 obtain ⟨xs, k, hk, hxy, _, hxl, hff⟩ := DataW.trod_struct Tryz.underlying36 hf
 match xs, hxl with
 | [y0, y1], _ =>
  have c1 : Tryz.prog.cellsOf 25 = 1 := by kernel_rfl
  have c2 : Tryz.prog.cellsOf 34 = 1 := by kernel_rfl
  have g0 := hff 0 _ rfl
  have g1 := hff 1 _ rfl
  simp [c1, c2] at g0 g1
  obtain ⟨a, n, c, ms, rfl, q1, q2, q3, -⟩ := open_numsF Tryz.underlying25 Tryz.underlying3 (by kernel_rfl) g0
  obtain ⟨b, m, d, ns, rfl, q4, q5, q6, -⟩ := open_numsF Tryz.underlying34 Tryz.underlying22 (by kernel_rfl) g1
  exact ⟨⟨a, n, c, ms, b, m, d, ns⟩, hl, q1, fun x hx => wf_i64 (q2 x hx), q3, q4, fun x hx => U64.wf (q5 x hx), q6⟩
theorem open_reveal {H : Type} {enc : TypeId × Value → H} {w : World} {base : Nat} {held : Bool} {r : Reach} {b0 : Nat} {v : Value} {d : DataW H} {p : List MemPlace} (hv : Value.okWide Tryz.prog w r b0 36 v) (h : DataW.Trod enc Tryz.prog w base (fun _ => true) held 36 v d p) :
 ∃ R : Rv, v = R.v ∧ RvIn w R := by
 obtain ⟨cs, rfl, hsz⟩ := okWide_struct Tryz.underlying36 hv
 obtain ⟨fuel, hf⟩ := h
 simp only [Value.cells] at hf
 have h2 : cs.toList.length = 2 := by rw [Array.length_toList, hsz]; kernel_rfl
 obtain ⟨R, hl, hR⟩ := reveal_cells h2 hf
 refine ⟨R, ?_, hR⟩
 unfold Rv.v
 congr 1
 exact Array.toList_inj.1 hl
open Go.ChangeShapes Go.WideShapes Go.ChangeAt Go.RowKit
section
variable {H : Type} {enc : TypeId × Value → H} {w : World} {base : Nat} {spare : Nat → Bool} {held : Bool} {r : Reach} {b0 : Nat} {v : Value} {d : DataW H} {p : List MemPlace}
end
theorem open_boolT {H : Type} {enc : TypeId × Value → H} {w : World} {base : Nat} {spare : Nat → Bool} {held : Bool} {r : Reach} {b0 : Nat} {v : Value} {d : DataW H} {p : List MemPlace} (hv : Value.okWide Tryz.prog w r b0 4 v) (h : DataW.Trod enc Tryz.prog w base spare held 4 v d p) : ∃ b, v = .bool b ∧ True := by
 obtain ⟨x, e, -⟩ := open_bool Tryz.underlying4 hv h
 exact ⟨x, e, trivial⟩
open Go Go.ChangeShapes Go.WideShapes Go.ChangeAt Go.RowKit Num Sha
theorem bulk_length {H : Type} (l : List (DataW H)) : l.length ≤ Rows.uptoBulkAll l := by
 induction l with
 | nil => simp [Rows.uptoBulkAll]
 | cons x r ih =>
  have h1 : 1 ≤ Rows.uptoBulk x := by
   cases x with
   | lit l => cases l <;> simp [Rows.uptoBulk]
   | nil => simp [Rows.uptoBulk]
   | ptr d => simp [Rows.uptoBulk]
   | slice elems spare => simp [Rows.uptoBulk]
   | agg parts => simp [Rows.uptoBulk]
   | iface t d => simp [Rows.uptoBulk]
   | map entries => simp [Rows.uptoBulk]
   | held h => simp [Rows.uptoBulk]
  simp only [Rows.uptoBulkAll, List.length_cons]
  omega
theorem slice_bulk {H : Type} {enc : TypeId × Value → H} {w : World} {base : Nat} {held : Bool} {t e : TypeId} {fuel n c : Nat} {a : Option Addr} {y : DataW H × List MemPlace} (ht : Tryz.prog.underlying t = some (.slice e)) (hf : DataW.trod enc Tryz.prog w base (fun _ => true) held fuel t [.slice a n c] = some y) : n ≤ Rows.uptoBulk y.1 := by
 rcases Deep.open_slice ht hf with ⟨hcs, -⟩ | ⟨ad, len, cap, m, k, D, Pl, hcs, -, hl, hm, hmm, hx, -⟩
 · simp at hcs; omega
 · simp at hcs
   obtain ⟨-, rfl, -⟩ := hcs
   rw [hx]
   have := bulk_length ((List.range n).map D)
   simp only [Rows.uptoBulk]
   rw [List.length_map, List.length_range] at this
   omega
theorem reveals_cells {H : Type} {enc : TypeId × Value → H} {w : World} {base : Nat} {held : Bool} {fuel : Nat} {v0 : Value} {y : DataW H × List MemPlace} (hf : DataW.trod enc Tryz.prog w base (fun _ => true) held fuel 53 [v0] = some y) :
 ∃ a n c l, v0 = .slice a n c ∧ ShR w a n l ∧ (a = none → c = 0) ∧ n ≤ c := by
 have c2 : Tryz.prog.cellsOf 36 = 2 := by kernel_rfl
 rcases Deep.open_slice Tryz.underlying53 hf with ⟨hcs, -⟩ | ⟨a, l0, c0, m, n, D, Pl, hcs, -, hl, hm, hmm, -, hx⟩
 · simp at hcs
   exact ⟨none, 0, 0, [], hcs, ShR.nil _ _, (fun _ => rfl), Nat.le_refl _⟩
 · simp at hcs
   subst hcs
   have hmc : m = c0 := by simpa using hmm
   have each : ∀ i, i < l0 → ∃ V : Rv, (∀ k u, V.vs[k]? = some u → w.cell? (a.add (i * 2 + k)) = some u) ∧ RvIn w V := by
    intro i hi
    obtain ⟨cs', h1, h2⟩ := hx i (by omega)
    rw [c2] at h1
    obtain ⟨_, hlen, hcell⟩ := World.cells?_some h1
    obtain ⟨V, rfl, hz⟩ := reveal_cells hlen h2
    refine ⟨V, fun k u hu => ?_, hz⟩
    have hk : k < 2 := by have := (List.getElem?_eq_some_iff.1 hu).1; simpa [Rv.vs] using this
    have := hcell k hk
    rw [Deep.add_add] at this
    rw [this]; exact hu
   haveI : Inhabited Rv := ⟨⟨none, 0, 0, [], none, 0, 0, []⟩⟩
   obtain ⟨q, hq⟩ := Deep.choose_lt each
   by_cases hl0 : l0 = 0
   · subst hl0
     exact ⟨_, _, _, [], rfl, ShR.nil _ _, (fun h => by cases h), hl⟩
   · obtain ⟨b, off, spot⟩ := a
     have g0 := (hq 0 (by omega)).1 0 _ rfl
     have hspot : spot = none := by simpa [Addr.add] using World.cell?_spot g0
     subst hspot
     have hlt : b < w.heap.size := by have := World.block_lt_of_cell? w _ g0; simpa [add_pl] using this
     refine ⟨_, _, _, (List.range l0).map q, rfl, .inr ⟨b, off, rfl, by simp, hlt, fun i hi k u hu => ?_, fun V hV => ?_⟩, (fun h => by cases h), hl⟩
     · have hi' : i < l0 := by simpa using hi
       have e : ((List.range l0).map q)[i] = q i := by simp
       rw [e] at hu
       have := (hq i hi').1 k u hu
       rwa [add_pl, ← Nat.add_assoc] at this
     · obtain ⟨i, hi, rfl⟩ := List.mem_map.1 hV
       exact (hq i (by simpa using hi)).2
theorem open_booth {H : Type} {enc : TypeId × Value → H} {w : World} {base : Nat} {held : Bool} {r : Reach} {b0 : Nat} {v : Value} {d : DataW H} {p : List MemPlace} (hv : Value.okWide Tryz.prog w r b0 55 v) (h : DataW.Trod enc Tryz.prog w base (fun _ => true) held 55 v d p) :
 ∃ B : Bo, v = B.v ∧ BoIn w B ∧ B.n + B.m + B.k ≤ Rows.uptoBulk d := by
 obtain ⟨cs, rfl, hsz⟩ := okWide_struct Tryz.underlying55 hv
 obtain ⟨fuel, hf⟩ := h
 simp only [Value.cells] at hf
 have h2 : cs.toList.length = 3 := by rw [Array.length_toList, hsz]; kernel_rfl
 obtain ⟨x0, x1, x2, hl⟩ : ∃ x0 x1 x2, cs.toList = [x0, x1, x2] := by
  match h : cs.toList, h2 with
  | [x0, x1, x2], _ => exact ⟨x0, x1, x2, rfl⟩
 rw [hl] at hf
 obtain ⟨xs, k, hk, hxy, _, hxl, hff⟩ := DataW.trod_struct Tryz.underlying55 hf
 match xs, hxl with
 | [y0, y1, y2], _ =>
  have c1 : Tryz.prog.cellsOf 52 = 1 := by kernel_rfl
  have c2 : Tryz.prog.cellsOf 53 = 1 := by kernel_rfl
  have g0 := hff 0 _ rfl
  have g1 := hff 1 _ rfl
  have g2 := hff 2 _ rfl
  simp [c1, c2] at g0 g1 g2
  obtain ⟨a, n, c, l, rfl, q1, q2, -⟩ := votes_cells g0
  obtain ⟨b, m, d', l', rfl, q3, q4, -⟩ := votes_cells g1
  obtain ⟨e, j, f, rs, rfl, q5, q6, -⟩ := reveals_cells g2
  have b0 := slice_bulk Tryz.underlying52 g0
  have b1 := slice_bulk Tryz.underlying52 g1
  have b2 := slice_bulk Tryz.underlying53 g2
  refine ⟨⟨a, n, c, l, b, m, d', l', e, j, f, rs⟩, ?_, ⟨q1, q2, q3, q4, q5, q6⟩, ?_⟩
  · unfold Bo.v
    congr 1
    exact Array.toList_inj.1 hl
  · simp only [Prod.mk.injEq] at hxy
    rw [hxy.1]
    simp only [List.map_cons, List.map_nil, Rows.uptoBulk, Rows.uptoBulkAll]
    show n + m + j ≤ _
    omega
end Go.Proofs.YtlbldpkgnonbpaaGreatDoor
