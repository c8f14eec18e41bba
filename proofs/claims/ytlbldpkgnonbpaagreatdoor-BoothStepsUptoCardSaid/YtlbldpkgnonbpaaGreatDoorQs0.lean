/- Challenge of any booth. -/
import Derived.Test.YtlbldpkgnonbpaaGreatDoorQsZ
import Derived.Test.YtlbldpkgnonbpaaGreatDoorQsS
import Derived.Test.YtlbldpkgnonbpaaGreatDoorQsA
set_option linter.unusedSimpArgs false
set_option linter.unusedVariables false
set_option maxRecDepth 100000
namespace Go.Proofs.YtlbldpkgnonbpaaGreatDoor
open Go Go.RowKit Num Sha
def ChaR (w : World) (P Q G y n : Int) (one : Bool) (B : Bo) (V : Vt) (R : Rv) (e : Ending) (w' : World) : Prop := Below w.heap.size w w' ∧ ∃ k e', AdmS P Q G y n one B V k e' ∧ ((e' ≠ 0 ∧ e = .returned (.tuple #[.agg #[.slice none 0 0, .slice none 0 0, .slice none 0 0], .int .i64 e'])) ∨
 (e' = 0 ∧ ((¬ (rangeP Q n.toNat R ∧ matchP P G y n.toNat V R) ∧ e = .returned (.tuple #[.agg #[.slice none 0 0, .slice none 0 0, .slice none 0 0], .int .i64 362])) ∨ ((rangeP Q n.toNat R ∧ matchP P G y n.toNat V R) ∧
   ((k = 256 ∧ e = .returned (.tuple #[.agg #[.slice none 0 0, .slice none 0 0, .slice none 0 0], .int .i64 9])) ∨ (k ≠ 256 ∧ BackB w.heap.size w' B.l (B.l' ++ [V]) (B.rs ++ [R]) B.n (B.m + 1) (B.k + 1) e))))))
set_option maxHeartbeats 16000000 in
theorem chal_any {P Q G y n : Int} {one : Bool} {B : Bo} {V : Vt} {R : Rv} (w : World) (hT : Tabs w) (hP : 0 ≤ P) (hQ : 0 ≤ Q) (hG : 0 ≤ G) (hy : 0 ≤ y) (hB : BoIn w B) (hs : BoSm B) (hV : VtIn w V) (hR : RvIn w R) (hn9 : V.n ≤ 10000) (hm9 : V.m ≤ 10000) (hrn : R.n ≤ 1000) (hrm : R.m ≤ 1000) :
 Calls Tryz.prog 18 #[.agg #[υ P, υ Q, υ G], υ y, .int .i64 n, .bool one, B.v, V.v, R.v] w (ChaR w P Q G y n one B V R) := by
 have HT := Lh hT
 have HB := Lh hB
 have HS := Lh hs
 have HV := Lh hV
 have HR := Lh hR
 clear hT hB hs hV hR
 have hBs : B.n ≤ 1000 ∧ B.m ≤ 1000 ∧ B.k ≤ 1000 := by have := HS.o.s1; have := HS.o.s2; omega
 unfold Bo.v Vt.v Rv.v
 obtain ⟨F_g, F_b, F_v, F_r, F_o, HBW⟩ := bx5 w [υ P, υ Q, υ G] 24 [.slice B.a B.n B.c, .slice B.b B.m B.d, .slice B.e B.k B.f] 55 V.cl 33 [.slice R.a R.n R.c, .slice R.b R.m R.d] 36 [.slice none 0 0, .slice none 0 0, .slice none 0 0] 55
 go_enter Tryz.func18, Tryz.ntmps18
 obtain ⟨qg0, qg1, qg2⟩ := F_g.o.k3
 obtain ⟨qb0, qb1, qb2⟩ := F_b.o.k3
 obtain ⟨⟨qv0, qv1, qv2, qv3, qv4, qv5, qv6, qv7, qv8, qv9, qva⟩, -⟩ := F_v.o.k11
 go_wp2_with fail
 clear qg0 qg1 qg2 qb0 qb1 qb2 qv0 qv1 qv2 qv3 qv4 qv5 qv6 qv7 qv8 qv9 qva
 refine (admit_any (V := V) _ (HT.o.below HBW.o) hP hQ hG hy (HB.o.keep HBW.o) HS.o (HV.o.keep HBW.o)).mono ?_
 rintro e w1 ⟨⟨k, e', rfl, hA⟩, hb1⟩
 have HA := Lh hA
 clear hA
 replace F_g := Lh (F_g.o.keep hb1)
 replace F_b := Lh (F_b.o.keep hb1)
 replace F_v := Lh (F_v.o.keep hb1)
 replace F_r := Lh (F_r.o.keep hb1)
 replace F_o := Lh (F_o.o.keep hb1)
 replace HBW := Kt HBW hb1
 clear hb1
 by_cases he : e' = 0
 case neg =>
  have HE := Lh he
  go_wp2_with (first
   | (refine wpL_storeCl rfl 55 (.tmp 14) (.tmp 33) (w.heap.size + 1 + 1 + 1 + 1) 0 _ [.slice none 0 0, .slice none 0 0, .slice none 0 0] [.slice none 0 0, .slice none 0 0, .slice none 0 0] rfl rfl rfl rfl (by kernel_rfl) (by intro u hu; simp at hu; rcases hu with rfl | rfl | rfl <;> rfl) F_o.o (by simp) rfl ?_
      intro w8 hc8 hg8 hz8
      have F_q := Lh hc8
      have HG8 := Lh hg8
      clear hc8 hg8 hz8))
  refine bodyPost_ret (res_booth2 rfl F_q.o _ rfl rfl) rfl ?_
  exact ⟨HBW.o.trans (HG8.o.blw (n := w.heap.size) (by omega) HBW.o.size), k, e', HA.o, .inl ⟨HE.o, rfl⟩⟩
 case pos =>
 subst he
 obtain ⟨qg0, qg1, qg2⟩ := F_g.o.k3
 obtain ⟨⟨qv0, qv1, qv2, qv3, qv4, qv5, qv6, qv7, qv8, qv9, qva⟩, -⟩ := F_v.o.k11
 obtain ⟨qr0, qr1⟩ := F_r.o.k2
 go_wp2_with fail
 clear qg0 qg1 qg2 qv0 qv1 qv2 qv3 qv4 qv5 qv6 qv7 qv8 qv9 qva qr0 qr1
 refine (matches_any (V := V) (R := R) _ (HT.o.below HBW.o) hP hQ hG hy (HV.o.keep HBW.o) (HR.o.keep HBW.o) hrn).mono ?_
 rintro e wm ⟨hbm, hm2⟩
 replace F_g := Lh (F_g.o.keep hbm)
 replace F_b := Lh (F_b.o.keep hbm)
 replace F_v := Lh (F_v.o.keep hbm)
 replace F_r := Lh (F_r.o.keep hbm)
 replace F_o := Lh (F_o.o.keep hbm)
 replace HBW := Kt HBW hbm
 clear hbm
 rcases hm2 with ⟨h1, -⟩ | ⟨-, ⟨h1, rfl⟩ | ⟨h1, vm, rfl, hvm⟩⟩
 · exact absurd HA.o.count.1 h1
 ·
  have HNR := Lh (show ¬ (rangeP Q n.toNat R ∧ matchP P G y n.toNat V R) from fun h => h1 h.1)
  go_wp2_with (first
   | (refine wpL_storeCl rfl 55 (.tmp 14) (.tmp 50) (w.heap.size + 1 + 1 + 1 + 1) 0 _ [.slice none 0 0, .slice none 0 0, .slice none 0 0] [.slice none 0 0, .slice none 0 0, .slice none 0 0] rfl rfl rfl rfl (by kernel_rfl) (by intro u hu; simp at hu; rcases hu with rfl | rfl | rfl <;> rfl) F_o.o (by simp) rfl ?_
      intro w8 hc8 hg8 hz8
      have F_q := Lh hc8
      have HG8 := Lh hg8
      clear hc8 hg8 hz8))
  refine bodyPost_ret (res_booth2 rfl F_q.o _ rfl rfl) rfl ?_
  exact ⟨HBW.o.trans (HG8.o.blw (n := w.heap.size) (by omega) HBW.o.size), _, _, HA.o, .inr ⟨rfl, .inl ⟨HNR.o, rfl⟩⟩⟩
 cases vm with
 | false =>
  have HNR := Lh (show ¬ (rangeP Q n.toNat R ∧ matchP P G y n.toNat V R) from fun h => by have := hvm.2 h.2; cases this)
  go_wp2_with (first
   | (refine wpL_storeCl rfl 55 (.tmp 14) (.tmp 50) (w.heap.size + 1 + 1 + 1 + 1) 0 _ [.slice none 0 0, .slice none 0 0, .slice none 0 0] [.slice none 0 0, .slice none 0 0, .slice none 0 0] rfl rfl rfl rfl (by kernel_rfl) (by intro u hu; simp at hu; rcases hu with rfl | rfl | rfl <;> rfl) F_o.o (by simp) rfl ?_
      intro w8 hc8 hg8 hz8
      have F_q := Lh hc8
      have HG8 := Lh hg8
      clear hc8 hg8 hz8))
  refine bodyPost_ret (res_booth2 rfl F_q.o _ rfl rfl) rfl ?_
  exact ⟨HBW.o.trans (HG8.o.blw (n := w.heap.size) (by omega) HBW.o.size), _, _, HA.o, .inr ⟨rfl, .inl ⟨HNR.o, rfl⟩⟩⟩
 | true =>
 have HYES := Lh (show rangeP Q n.toNat R ∧ matchP P G y n.toNat V R from ⟨h1, hvm.1 rfl⟩)
 clear h1 hvm
 by_cases hk : k = 256
 case pos =>
  have HK := Lh hk
  subst hk
  go_wp2_with (first
   | (refine wpL_storeCl rfl 55 (.tmp 14) (.tmp 53) (w.heap.size + 1 + 1 + 1 + 1) 0 _ [.slice none 0 0, .slice none 0 0, .slice none 0 0] [.slice none 0 0, .slice none 0 0, .slice none 0 0] rfl rfl rfl rfl (by kernel_rfl) (by intro u hu; simp at hu; rcases hu with rfl | rfl | rfl <;> rfl) F_o.o (by simp) rfl ?_
      intro w8 hc8 hg8 hz8
      have F_q := Lh hc8
      have HG8 := Lh hg8
      clear hc8 hg8 hz8))
  refine bodyPost_ret (res_booth2 rfl F_q.o _ rfl rfl) rfl ?_
  exact ⟨HBW.o.trans (HG8.o.blw (n := w.heap.size) (by omega) HBW.o.size), _, _, HA.o, .inr ⟨rfl, .inr ⟨HYES.o, .inl ⟨rfl, rfl⟩⟩⟩⟩
 case neg =>
 have hd : decide (k = 256) = false := decide_eq_false hk
 have hd2 : (k == 256) = false := by simpa using hk
 have HK := Lh hk
 clear hk
 obtain ⟨qb0, qb1, qb2⟩ := F_b.o.k3
 go_wp2_with fail
 clear qb0 qb1 qb2
 refine (twin_any _ (HB.o.keep HBW.o) HS.o).mono ?_
 rintro e w2 ⟨⟨v1, v2, v3, N1, N2, N3, rfl, hn1, hn2, hn3, hn4, hr1, hr2, hr3⟩, hb2⟩
 have hlt0 := F_o.o.lt
 obtain ⟨n0, hn0⟩ : ∃ n, wm.heap.size = n := ⟨_, rfl⟩
 rw [hn0] at hlt0 hn1 hr1
 obtain ⟨a1, c1, rfl⟩ := hr1.slice
 obtain ⟨a2, c2, rfl⟩ := hr2.slice
 obtain ⟨a3, c3, rfl⟩ := hr3.slice
 replace F_v := Lh (F_v.o.keep hb2)
 replace F_r := Lh (F_r.o.keep hb2)
 replace F_o := Lh (F_o.o.keep hb2)
 replace HBW := Kt HBW hb2
 have HD1 := Lh hr1
 have HD2 := Lh hr2
 have HD3 := Lh hr3
 clear hb2 hr1 hr2 hr3 hn0 F_b
 obtain ⟨wo, rfl⟩ : ∃ wo, wo = w2 := ⟨_, rfl⟩
 go_wp2_with fail
 have F_t := Lh (Cl.at wo [.slice a1 B.n c1, .slice a2 B.m c2, .slice a3 B.k c3] 55 wo.heap.size rfl)
 replace F_v := Lh (F_v.o.alloc (.cells #[.slice a1 B.n c1, .slice a2 B.m c2, .slice a3 B.k c3] 55))
 replace F_r := Lh (F_r.o.alloc (.cells #[.slice a1 B.n c1, .slice a2 B.m c2, .slice a3 B.k c3] 55))
 replace F_o := Lh (F_o.o.alloc (.cells #[.slice a1 B.n c1, .slice a2 B.m c2, .slice a3 B.k c3] 55))
 replace HBW := Lh (HBW.o.alloc HBW.o.size (.cells #[.slice a1 B.n c1, .slice a2 B.m c2, .slice a3 B.k c3] 55))
 obtain ⟨HX, hHX⟩ : ∃ B, B = wo.heap.size := ⟨_, rfl⟩
 have hls : HX < (wo.alloc (.cells #[.slice a1 B.n c1, .slice a2 B.m c2, .slice a3 B.k c3] 55)).heap.size := by rw [hHX]; simp
 rw [← hHX] at F_t hn4 ⊢
 clear hHX
 have HPS := Lh (show n0 ≤ N3 by omega)
 have HR1 := Lh ((HD1.o.rp (fun b => n0 ≤ b ∧ b < N1) (fun b h1 h2 => ⟨h1, h2⟩)).alloc (.cells #[.slice a1 B.n c1, .slice a2 B.m c2, .slice a3 B.k c3] 55))
 have HR2 := Lh ((HD2.o.rp (fun b => (N1 ≤ b ∧ b < N2) ∨ HX < b) (fun b h1 h2 => .inl ⟨h1, h2⟩)).alloc (.cells #[.slice a1 B.n c1, .slice a2 B.m c2, .slice a3 B.k c3] 55))
 have HR3 := Lh ((HD3.o.rp (fun b => (N2 ≤ b ∧ b < N3) ∨ HX < b) (fun b h1 h2 => .inl ⟨h1, h2⟩)).alloc (.cells #[.slice a1 B.n c1, .slice a2 B.m c2, .slice a3 B.k c3] 55))
 have HOG2 := Lh (show ∀ g, (Value.slice a2 B.m c2).ownBlock = some g → N1 ≤ g ∧ g < N2 from fun g hg => ⟨(HD2.o.choose_spec.1.lt g hg).1, HD2.o.choose_spec.2.1 g hg⟩)
 have HOF2 := Lh (show ∀ g, (Value.slice a2 B.m c2).ownBlock = some g → g < HX + 1 from fun g hg => by have := (HOG2.o g hg).2; omega)
 have HOG3 := Lh (show ∀ g, (Value.slice a3 B.k c3).ownBlock = some g → N2 ≤ g ∧ g < N3 from fun g hg => ⟨(HD3.o.choose_spec.1.lt g hg).1, HD3.o.choose_spec.2.1 g hg⟩)
 have HOF3 := Lh (show ∀ g, (Value.slice a3 B.k c3).ownBlock = some g → g < HX + 1 from fun g hg => by have := (HOG3.o g hg).2; omega)
 obtain ⟨wx, hwx⟩ : ∃ wx, wx = wo.alloc (.cells #[.slice a1 B.n c1, .slice a2 B.m c2, .slice a3 B.k c3] 55) := ⟨_, rfl⟩
 rw [← hwx] at F_t HR1 HR2 HR3 HBW hls F_v F_r F_o ⊢
 clear hwx HD1 HD2 HD3
 replace F_t := Lh F_t.o.drew
 replace F_v := Lh F_v.o.drew
 replace F_r := Lh F_r.o.drew
 replace F_o := Lh F_o.o.drew
 replace HR1 := Lh HR1.o.drew
 replace HR2 := Lh HR2.o.drew
 replace HR3 := Lh HR3.o.drew
 replace HBW := Lh HBW.o.drew
 have hS : Cl wx.drew HX [.slice a1 B.n c1, .slice a2 B.m c2, .slice a3 B.k c3] ∧ Cl wx.drew (w.heap.size + 1 + 1) V.cl ∧ Cl wx.drew (w.heap.size + 1 + 1 + 1) [.slice R.a R.n R.c, .slice R.b R.m R.d] := ⟨F_t.o, F_v.o, F_r.o⟩
 refine wp_region_stage 11 (fun w' => Cl w' HX [.slice a1 B.n c1, .slice a2 B.m c2, .slice a3 B.k c3] ∧ Cl w' (w.heap.size + 1 + 1) V.cl ∧ Cl w' (w.heap.size + 1 + 1 + 1) [.slice R.a R.n R.c, .slice R.b R.m R.d]) (by kernel_rfl) ?_
 refine tkQ 0 (some 56) (.fieldAddr 55 (.tmp 20) 1) 0 ?_
 simp only [sY]
 refine tkL (i := 1) (some 57) (.load 52 (.tmp 56)) 52 [5, 9, 10, 11] (v := ?_) hS (fun w' hSw => ?_) ?_
 rotate_left
 · obtain ⟨s1, s2, s3⟩ := hSw; have t1 := s1.c 1 _ rfl; have t2 := s1.c 2 _ rfl; obtain ⟨⟨q0, q1, q2, q3, q4, q5, q6, q7, q8, q9, q10⟩, -⟩ := s2.k11; have r0 := s3.c 0 _ rfl; have r1 := s3.c 1 _ rfl
   unfold bareOp; go_simp; try with_reducible rfl
 simp only [sY]
 refine tkL (i := 2) (some 58) (.load 33 (.tmp 12)) 33 [3, 4, 5, 9, 10, 11] (v := ?_) hS (fun w' hSw => ?_) ?_
 rotate_left
 · obtain ⟨s1, s2, s3⟩ := hSw; have t1 := s1.c 1 _ rfl; have t2 := s1.c 2 _ rfl; obtain ⟨⟨q0, q1, q2, q3, q4, q5, q6, q7, q8, q9, q10⟩, -⟩ := s2.k11; have r0 := s3.c 0 _ rfl; have r1 := s3.c 1 _ rfl
   unfold bareOp; go_simp; try with_reducible rfl
 simp only [sY]
 refine tkQ 6 (some 62) (.fieldAddr 55 (.tmp 20) 2) 0 ?_
 simp only [sY]
 refine tkL (i := 7) (some 63) (.load 53 (.tmp 62)) 53 [11] (v := ?_) hS (fun w' hSw => ?_) ?_
 rotate_left
 · obtain ⟨s1, s2, s3⟩ := hSw; have t1 := s1.c 1 _ rfl; have t2 := s1.c 2 _ rfl; obtain ⟨⟨q0, q1, q2, q3, q4, q5, q6, q7, q8, q9, q10⟩, -⟩ := s2.k11; have r0 := s3.c 0 _ rfl; have r1 := s3.c 1 _ rfl
   unfold bareOp; go_simp; try with_reducible rfl
 simp only [sY]
 refine tkL (i := 8) (some 64) (.load 36 (.tmp 13)) 36 [9, 10, 11] (v := ?_) hS (fun w' hSw => ?_) ?_
 rotate_left
 · obtain ⟨s1, s2, s3⟩ := hSw; have t1 := s1.c 1 _ rfl; have t2 := s1.c 2 _ rfl; obtain ⟨⟨q0, q1, q2, q3, q4, q5, q6, q7, q8, q9, q10⟩, -⟩ := s2.k11; have r0 := s3.c 0 _ rfl; have r1 := s3.c 1 _ rfl
   unfold bareOp; go_simp; try with_reducible rfl
 simp only [sY]
 refine onl (i := 3) (some 59) (.call { callee := .value (.func 48), args := #[.tmp 58], argTypes := #[33] }) 33 (fun K hK => ?_)
 unfold bareOp
 go_wp2_with (go_at_call 48; refine (twinVote_new (V := V) _ (HV.o.keep HBW.o) hn9 hm9).mono ?_; rintro e w5 ⟨U, rfl, hU5, hS5, hh1, hh2, hb5⟩)
 replace F_t := Lh (F_t.o.keep hb5)
 replace F_v := Lh (F_v.o.keep hb5)
 replace F_r := Lh (F_r.o.keep hb5)
 replace F_o := Lh (F_o.o.keep hb5)
 replace HR1 := Lh (HR1.o.keep hb5)
 replace HR2 := Lh (HR2.o.keep hb5)
 replace HR3 := Lh (HR3.o.keep hb5)
 replace HBW := Kt HBW hb5
 replace hS := (show Cl _ HX [.slice a1 B.n c1, .slice a2 B.m c2, .slice a3 B.k c3] ∧ Cl _ (w.heap.size + 1 + 1) V.cl ∧ Cl _ (w.heap.size + 1 + 1 + 1) [.slice R.a R.n R.c, .slice R.b R.m R.d] from ⟨F_t.o, F_v.o, F_r.o⟩)
 have HU5 := Lh hU5
 have HS5 := Lh hS5
 have HH5 := Lh (show highB U.a U.n (HX + 1) ∧ highB U.b U.m (HX + 1) from ⟨hh1.mono (by (try simp only [World.size_drew]); omega), hh2.mono (by (try simp only [World.size_drew]); omega)⟩)
 have hz5 := hb5.size
 have hls5 : HX < w5.heap.size := by (try simp only [World.size_drew] at hz5); omega
 unfold Vt.v
 clear hb5 hU5 hS5 hz5 hh1 hh2
 refine hK.o _ _ (fun _ => hS) ?_
 clear hK K
 try simp only [sY]
 refine onl (i := 4) (some 60) (.buildSlice 52 1 #[(0, .tmp 59)]) 52 (fun K hK => ?_)
 unfold bareOp
 go_wp2_with fail
 replace F_t := Lh (F_t.o.alloc (.cells U.ca 33))
 replace F_v := Lh (F_v.o.alloc (.cells U.ca 33))
 replace F_r := Lh (F_r.o.alloc (.cells U.ca 33))
 replace F_o := Lh (F_o.o.alloc (.cells U.ca 33))
 replace HR1 := Lh (HR1.o.alloc (.cells U.ca 33))
 replace HR2 := Lh (HR2.o.alloc (.cells U.ca 33))
 replace HR3 := Lh (HR3.o.alloc (.cells U.ca 33))
 replace HBW := Lh (HBW.o.alloc HBW.o.size (.cells U.ca 33))
 replace hS := (show Cl _ HX [.slice a1 B.n c1, .slice a2 B.m c2, .slice a3 B.k c3] ∧ Cl _ (w.heap.size + 1 + 1) V.cl ∧ Cl _ (w.heap.size + 1 + 1 + 1) [.slice R.a R.n R.c, .slice R.b R.m R.d] from ⟨F_t.o, F_v.o, F_r.o⟩)
 replace HU5 := Lh (HU5.o.keep ((Below.refl _ _).alloc (Nat.le_refl _) (.cells U.ca 33)))
 refine hK.o _ _ (fun _ => hS) ?_
 clear hK K
 try simp only [sY]
 refine onl (i := 5) (some 61) (.call { callee := .builtin .append, args := #[.tmp 57, .tmp 60], argTypes := #[52, 52] }) 52 (fun K hK => ?_)
 unfold bareOp
 refine wp_pushV (.tmp 57) (.tmp 60) rfl (fun b => (N1 ≤ b ∧ b < N2) ∨ HX < b) B.m w5.heap.size (.slice a2 B.m c2) B.l' U V rfl rfl HR2.o (cell_list_at _ _ _ _ rfl) (by omega) (.inr (by simp <;> omega)) HU5.o ⟨HH5.o.1.off HOF2.o, HH5.o.2.off HOF2.o⟩ ⟨HH5.o.1.inB _ (fun b hb => .inr (by omega)), HH5.o.2.inB _ (fun b hb => .inr (by omega))⟩ HS5.o.key ?_
 intro a9 c9 w9 hR9 hg9
 replace HR2 := Lh hR9
 replace HR1 := Lh (HR1.o.grown hg9 (fun g hg => by have := (HOG2.o g hg); simp only [not_and, not_or, Nat.not_lt]; omega))
 replace HR3 := Lh (HR3.o.grown hg9 (fun g hg => by have := (HOG2.o g hg); simp only [not_and, not_or, Nat.not_lt]; omega))
 have HB9 := Lh (Below.rowT (n := n0) hg9 (fun g hg => by have := (HOG2.o g hg).1; omega) (by simp <;> omega))
 replace F_v := Lh (F_v.o.keepN HB9.o (by omega))
 replace F_r := Lh (F_r.o.keepN HB9.o (by omega))
 replace F_o := Lh (F_o.o.keepN HB9.o (by omega))
 replace F_t := Lh (F_t.o.grownX hg9 (fun g hg => by have := (HOG2.o g hg).2; omega))
 replace HBW := Lh (HBW.o.trans (HB9.o.mono (by omega)))
 have hz9 := hg9.size
 have hlsw9 : HX < w9.heap.size := by simp at hz9; omega
 replace hS := (show Cl _ HX [.slice a1 B.n c1, .slice a2 B.m c2, .slice a3 B.k c3] ∧ Cl _ (w.heap.size + 1 + 1) V.cl ∧ Cl _ (w.heap.size + 1 + 1 + 1) [.slice R.a R.n R.c, .slice R.b R.m R.d] from ⟨F_t.o, F_v.o, F_r.o⟩)
 clear HB9 hR9 hg9 hz9
 refine hK.o _ _ (fun _ => hS) ?_
 clear hK K
 try simp only [sY]
 refine tkQ 12 (some 68) (.fieldAddr 55 (.tmp 20) 1) 0 ?_
 simp only [sY]
 refine onl (i := 9) (some 65) (.call { callee := .value (.func 50), args := #[.tmp 64], argTypes := #[36] }) 36 (fun K hK => ?_)
 unfold bareOp
 go_wp2_with (go_at_call 50; refine (twinReveal_new (R := R) _ (HR.o.keep HBW.o) (by omega) (by omega)).mono ?_; rintro e w7 ⟨T, rfl, hU5, hS5, hh1, hh2, hb5⟩)
 replace F_t := Lh (F_t.o.keep hb5)
 replace F_v := Lh (F_v.o.keep hb5)
 replace F_r := Lh (F_r.o.keep hb5)
 replace F_o := Lh (F_o.o.keep hb5)
 replace HR1 := Lh (HR1.o.keep hb5)
 replace HR2 := Lh (HR2.o.keep hb5)
 replace HR3 := Lh (HR3.o.keep hb5)
 replace HBW := Kt HBW hb5
 replace hS := (show Cl _ HX [.slice a1 B.n c1, .slice a2 B.m c2, .slice a3 B.k c3] ∧ Cl _ (w.heap.size + 1 + 1) V.cl ∧ Cl _ (w.heap.size + 1 + 1 + 1) [.slice R.a R.n R.c, .slice R.b R.m R.d] from ⟨F_t.o, F_v.o, F_r.o⟩)
 have HU7 := Lh hU5
 have HS7 := Lh hS5
 have HH7 := Lh (show highB T.a T.n (HX + 1) ∧ highB T.b T.m (HX + 1) from ⟨hh1.mono (by (try simp only [World.size_drew]); omega), hh2.mono (by (try simp only [World.size_drew]); omega)⟩)
 have hz5 := hb5.size
 have hls7 : HX < w7.heap.size := by (try simp only [World.size_drew] at hz5); omega
 unfold Rv.v
 clear hb5 hU5 hS5 hz5 hh1 hh2
 refine hK.o _ _ (fun _ => hS) ?_
 clear hK K
 try simp only [sY]
 refine onl (i := 10) (some 66) (.buildSlice 53 1 #[(0, .tmp 65)]) 53 (fun K hK => ?_)
 unfold bareOp
 go_wp2_with fail
 replace F_t := Lh (F_t.o.alloc (.cells #[.slice T.a T.n T.c, .slice T.b T.m T.d] 36))
 replace F_v := Lh (F_v.o.alloc (.cells #[.slice T.a T.n T.c, .slice T.b T.m T.d] 36))
 replace F_r := Lh (F_r.o.alloc (.cells #[.slice T.a T.n T.c, .slice T.b T.m T.d] 36))
 replace F_o := Lh (F_o.o.alloc (.cells #[.slice T.a T.n T.c, .slice T.b T.m T.d] 36))
 replace HR1 := Lh (HR1.o.alloc (.cells #[.slice T.a T.n T.c, .slice T.b T.m T.d] 36))
 replace HR2 := Lh (HR2.o.alloc (.cells #[.slice T.a T.n T.c, .slice T.b T.m T.d] 36))
 replace HR3 := Lh (HR3.o.alloc (.cells #[.slice T.a T.n T.c, .slice T.b T.m T.d] 36))
 replace HBW := Lh (HBW.o.alloc HBW.o.size (.cells #[.slice T.a T.n T.c, .slice T.b T.m T.d] 36))
 replace hS := (show Cl _ HX [.slice a1 B.n c1, .slice a2 B.m c2, .slice a3 B.k c3] ∧ Cl _ (w.heap.size + 1 + 1) V.cl ∧ Cl _ (w.heap.size + 1 + 1 + 1) [.slice R.a R.n R.c, .slice R.b R.m R.d] from ⟨F_t.o, F_v.o, F_r.o⟩)
 replace HU7 := Lh (HU7.o.keep ((Below.refl _ _).alloc (Nat.le_refl _) (.cells #[.slice T.a T.n T.c, .slice T.b T.m T.d] 36)))
 refine hK.o _ _ (fun _ => hS) ?_
 clear hK K
 try simp only [sY]
 refine onl (i := 11) (some 67) (.call { callee := .builtin .append, args := #[.tmp 63, .tmp 66], argTypes := #[53, 53] }) 53 (fun K hK => ?_)
 unfold bareOp
 refine wp_pushR (.tmp 63) (.tmp 66) rfl (fun b => (N2 ≤ b ∧ b < N3) ∨ HX < b) B.k w7.heap.size (.slice a3 B.k c3) B.rs T R rfl rfl HR3.o (cell_list_at _ _ _ _ rfl) (by omega) (.inr (by simp <;> omega)) HU7.o ⟨HH7.o.1.off HOF3.o, HH7.o.2.off HOF3.o⟩ ⟨HH7.o.1.inB _ (fun b hb => .inr (by omega)), HH7.o.2.inB _ (fun b hb => .inr (by omega))⟩ HS7.o.key ?_
 intro a8 c8 w8 hR9 hg9
 replace HR3 := Lh hR9
 replace HR1 := Lh (HR1.o.grown hg9 (fun g hg => by have := (HOG3.o g hg); simp only [not_and, not_or, Nat.not_lt]; omega))
 replace HR2 := Lh (HR2.o.grown hg9 (fun g hg => by have := (HOG3.o g hg); simp only [not_and, not_or, Nat.not_lt]; omega))
 have HB9 := Lh (Below.rowT (n := n0) hg9 (fun g hg => by have := (HOG3.o g hg).1; omega) (by simp <;> omega))
 replace F_v := Lh (F_v.o.keepN HB9.o (by omega))
 replace F_r := Lh (F_r.o.keepN HB9.o (by omega))
 replace F_o := Lh (F_o.o.keepN HB9.o (by omega))
 replace F_t := Lh (F_t.o.grownX hg9 (fun g hg => by have := (HOG3.o g hg).2; omega))
 replace HBW := Lh (HBW.o.trans (HB9.o.mono (by omega)))
 have hz9 := hg9.size
 have hlsw8 : HX < w8.heap.size := by simp at hz9; omega
 clear HB9 hR9 hg9 hz9
 refine hK.o _ _ lt8 ?_
 clear hK K
 try simp only [sY]
 have q1 := F_t.o.c 1 _ rfl
 have qf1 := F_t.o.f 1
 refine onl (i := 13) none (.store 52 (.tmp 68) (.tmp 61)) 0 (fun K hK => ?_)
 unfold bareOp
 go_wp2_with fail
 replace F_t := Lh (F_t.o.set (m := [.slice a1 B.n c1, .slice a9 (B.m + 1) c9, .slice a3 B.k c3]) 1 (.slice a9 (B.m + 1) c9) (by simp) rfl)
 replace F_o := Lh (F_o.o.far ⟨HX, 1, none⟩ (.slice a9 (B.m + 1) c9) (by simp <;> omega))
 replace HR1 := Lh (HR1.o.set ⟨HX, 1, none⟩ (.slice a9 (B.m + 1) c9) (by simp <;> omega))
 replace HR2 := Lh (HR2.o.set ⟨HX, 1, none⟩ (.slice a9 (B.m + 1) c9) (by simp <;> omega))
 replace HR3 := Lh (HR3.o.set ⟨HX, 1, none⟩ (.slice a9 (B.m + 1) c9) (by simp <;> omega))
 replace HBW := Lh (HBW.o.setCell (p := ⟨HX, 1, none⟩) (by simp <;> omega) (.slice a9 (B.m + 1) c9))
 refine hK.o _ _ lt8 ?_
 clear hK K
 try simp only [sY]
 refine tkP (i := 14) (some 69) (.fieldAddr 55 (.tmp 20) 2) 0 lt8 ?_
 simp only [sY]
 have q2 := F_t.o.c 2 _ rfl
 have qf2 := F_t.o.f 2
 refine onl (i := 15) none (.store 53 (.tmp 69) (.tmp 67)) 0 (fun K hK => ?_)
 unfold bareOp
 go_wp2_with fail
 replace F_t := Lh (F_t.o.set (m := [.slice a1 B.n c1, .slice a9 (B.m + 1) c9, .slice a8 (B.k + 1) c8]) 2 (.slice a8 (B.k + 1) c8) (by simp) rfl)
 replace F_o := Lh (F_o.o.far ⟨HX, 2, none⟩ (.slice a8 (B.k + 1) c8) (by simp <;> omega))
 replace HR1 := Lh (HR1.o.set ⟨HX, 2, none⟩ (.slice a8 (B.k + 1) c8) (by simp <;> omega))
 replace HR2 := Lh (HR2.o.set ⟨HX, 2, none⟩ (.slice a8 (B.k + 1) c8) (by simp <;> omega))
 replace HR3 := Lh (HR3.o.set ⟨HX, 2, none⟩ (.slice a8 (B.k + 1) c8) (by simp <;> omega))
 replace HBW := Lh (HBW.o.setCell (p := ⟨HX, 2, none⟩) (by simp <;> omega) (.slice a8 (B.k + 1) c8))
 refine hK.o _ _ lt8 ?_
 clear hK K
 try simp only [sY]
 refine wpAnyB_done (by kernel_rfl) ?_ _
 go_wp2_with (first
  | (refine wpL_loadCl rfl 55 (.tmp 20) HX _ rfl rfl _ Tryz.underlying55 rfl (by kernel_rfl) F_t.o ?_)
  | (refine wpL_storeCl rfl 55 (.tmp 14) (.tmp 70) (w.heap.size + 1 + 1 + 1 + 1) 0 _ [.slice a1 B.n c1, .slice a9 (B.m + 1) c9, .slice a8 (B.k + 1) c8] [.slice a1 B.n c1, .slice a9 (B.m + 1) c9, .slice a8 (B.k + 1) c8] rfl rfl rfl rfl (by kernel_rfl) (by intro u hu; simp at hu; rcases hu with rfl | rfl | rfl <;> rfl) F_o.o (by simp) rfl ?_
     intro w8 hc8 hg8 hz8
     have F_q := Lh hc8
     have HG8 := Lh hg8
     clear hc8 hg8 hz8))
 refine bodyPost_ret (res_booth2 rfl F_q.o _ rfl rfl) rfl ?_
 refine ⟨HBW.o.trans (HG8.o.blw (n := w.heap.size) (by omega) HBW.o.size), _, _, HA.o, .inr ⟨rfl, .inr ⟨HYES.o, .inr ⟨HK.o, ?_⟩⟩⟩⟩
 have hng : ∀ g, some (w.heap.size + 1 + 1 + 1 + 1) = some g → g < n0 := fun g hg => by cases hg; exact hlt0
 exact BackB.of (lo := w.heap.size) (fun r hr => by have hq := hng _ rfl; refine ⟨?_, ?_, ?_⟩ <;> simp only [not_and, not_or, Nat.not_lt] <;> omega) (HR1.o.grown HG8.o.grown (fun g hg => by have := hng g hg; omega)) (HR2.o.grown HG8.o.grown (fun g hg => by have := hng g hg; omega)) (HR3.o.grown HG8.o.grown (fun g hg => by have := hng g hg; omega))
open Go Go.RowKit Num Sha
theorem bytes_key {U V : Vt} (h : U.key = V.key) : U.bytes = V.bytes := by
 obtain ⟨h1, h2, h3, h4, h5, h6⟩ := Vt.same_of_key h
 unfold Vt.bytes Vt.nums Vt.pts
 rw [h1, h2, h3, h4, h5, h6]
theorem cd_key {U V : Vt} (h : U.key = V.key) : U.cd = V.cd := by
 obtain ⟨h1, h2, h3, h4, h5, h6⟩ := Vt.same_of_key h
 unfold Vt.cd codeF
 rw [bytes_key h, h1, h3]
theorem valid_key {P Q G y : Int} {n : Nat} {U V : Vt} (h : U.key = V.key) : validP P Q G y n U ↔ validP P Q G y n V := by
 obtain ⟨h1, h2, h3, h4, h5, h6⟩ := Vt.same_of_key h
 unfold validP
 rw [h1, h2, h3, h4, h5, h6]
theorem good_key {P Q G y : Int} {n : Nat} {one : Bool} {U V : Vt} (h : U.key = V.key) : goodV P Q G y n one U ↔ goodV P Q G y n one V := by
 unfold goodV
 rw [valid_key h, (Vt.same_of_key h).2.2.2.2.1]
theorem range_key {Q : Int} {n : Nat} {R T : Rv} (h : R.key = T.key) : rangeP Q n R ↔ rangeP Q n T := by
 obtain ⟨h1, h2, h3, h4⟩ := Rv.same_of_key h
 unfold rangeP
 rw [h2, h3, h4]
theorem match_key {P G y : Int} {n : Nat} {U V : Vt} {R T : Rv} (h : U.key = V.key) (k : R.key = T.key) : matchP P G y n U R ↔ matchP P G y n V T := by
 obtain ⟨h1, h2, h3, h4, h5, h6⟩ := Vt.same_of_key h
 obtain ⟨k1, k2, k3, k4⟩ := Rv.same_of_key k
 unfold matchP
 rw [h1, h2, k2, k4]
theorem cds_keys {L M : List Vt} (h : L.map Vt.key = M.map Vt.key) : cds L = cds M := by
 induction L generalizing M with
 | nil => cases M with
   | nil => rfl
   | cons _ _ => cases h
 | cons U L ih => cases M with
   | nil => cases h
   | cons V M =>
    simp only [List.map_cons, List.cons.injEq] at h
    unfold cds at ih ⊢
    rw [List.map_cons, List.map_cons, cd_key h.1, ih h.2]
theorem keys_get {α β : Type} (f : α → β) {L M : List α} (h : L.map f = M.map f) {i : Nat} {x : α} (hx : L[i]? = some x) : ∃ z, M[i]? = some z ∧ f x = f z := by
 have := congrArg (fun l => l[i]?) h
 simp only [List.getElem?_map, hx, Option.map_some] at this
 cases hm : M[i]? with
 | none => rw [hm] at this; cases this
 | some z => rw [hm] at this; simp at this; exact ⟨z, rfl, this⟩
theorem keys_mem {α β : Type} (f : α → β) {L M : List α} (h : L.map f = M.map f) {x : α} (hx : x ∈ L) : ∃ z, z ∈ M ∧ f x = f z := by
 obtain ⟨i, hi⟩ := List.mem_iff_getElem?.1 hx
 obtain ⟨z, hz, e⟩ := keys_get f h hi
 exact ⟨z, List.mem_of_getElem? hz, e⟩
theorem keys_append {α β : Type} (f : α → β) {L M L' M' : List α} (h : L.map f = M.map f) (h' : L'.map f = M'.map f) : (L ++ L').map f = (M ++ M').map f := by
 rw [List.map_append, List.map_append, h, h']
theorem AdmS.vote {P Q G y n : Int} {one : Bool} {B : Bo} {V : Vt} {k e' : Int} (h : AdmS P Q G y n one B V k e') (hc : chkB P Q G y n = 0) (hb : boothP P Q G y n.toNat one B) (hg : ¬ goodV P Q G y n.toNat one V) : e' = 360 := by
 rcases h with ⟨h1, -, -⟩ | ⟨h1, ⟨h2, -, -⟩ | ⟨h2, ⟨h3, -, h4⟩ | ⟨h3, -⟩⟩⟩
 · exact absurd hc h1
 · exact absurd hb h2
 · exact h4
 · exact absurd h3 hg
theorem AdmS.ok {P Q G y n : Int} {one : Bool} {B : Bo} {V : Vt} {k e' : Int} (h : AdmS P Q G y n one B V k e') (hc : chkB P Q G y n = 0) (hb : boothP P Q G y n.toNat one B) (hg : goodV P Q G y n.toNat one V) (hs : V.cd ∉ cds (B.l ++ B.l')) : e' = 0 ∧ k = ((B.n + B.m : Nat) : Int) := by
 rcases h with ⟨h1, -, -⟩ | ⟨h1, ⟨h2, -, -⟩ | ⟨h2, ⟨h3, -, -⟩ | ⟨h3, ⟨h4, -, -⟩ | ⟨h4, h5, h6⟩⟩⟩⟩
 · exact absurd hc h1
 · exact absurd hb h2
 · exact absurd hg h3
 · exact absurd h4 hs
 · exact ⟨h6, h5⟩
theorem BvS.ok {P Q G y n : Int} {one : Bool} {B : Bo} {e' : Int} (h : BvS P Q G y n one B e') (hc : chkB P Q G y n = 0) (hb : boothP P Q G y n.toNat one B) : e' = 0 := by
 rcases h with ⟨h1, -⟩ | ⟨-, ⟨h2, -⟩ | ⟨-, h3⟩⟩
 · exact absurd hc h1
 · exact absurd hb h2
 · exact h3
open Go Go.RowKit Num Sha
theorem wpL_appV {w : World} {ops : Array Oper} {rest : List Oper} {o : Oper} {a : Act} {Q : Exit → Act → World → Prop} (hgd : o.guard = none) (s x : Operand) (ho : o.op = .call { callee := .builtin .append, args := #[s, x], argTypes := #[52, 52] })
 (base : Nat) (v : Value) (n : Nat) (xs : List Value) (p : Option Addr) (m c : Nat) (l : List Vt) (hs : a.eval s = v) (hx : a.eval x = .slice p m c) (hown : w.ownsRow base 33 11 v n xs) (hl : ShV w p m l) (hc : p = none → c = 0) (hn : n + m ≤ 4194304) (hb : base ≤ w.heap.size)
 (h : ∀ v' w', w'.ownsRow base 33 11 v' (n + m) (xs ++ l.flatMap Vt.vs) → Below base w w' → w.heap.size ≤ w'.heap.size → wpList Tryz.prog ops Q rest (a.put o.dst v') w') : wpList Tryz.prog ops Q (o :: rest) a w := by
 obtain ⟨i0, hi, hz0, hz1, hz2⟩ := info_parts (P := Tryz.prog) (e := 33) (z := (.agg #[.slice none 0 0, .slice none 0 0, .bool false, υ 0, υ 0, υ 0, υ 0, υ 0, υ 0, υ 0, υ 0])) (size := 11) (bytes := 120) (by kernel_rfl)
 cases p with
 | none =>
  have hz : m = 0 ∧ l = [] := by
   rcases hl with h | ⟨s, o, h0, -⟩
   · exact h
   · cases h0
  obtain ⟨rfl, rfl⟩ := hz
  obtain rfl := hc rfl
  refine wpList_append_own_none hgd s x 52 ho base 33 i0 11 Tryz.underlying52 hi v n xs hs hown hx ?_
  exact h v w (by simpa using hown) (Below.refl _ _) (Nat.le_refl _)
 | some ad =>
  refine wpList_append_own _ hgd s x 52 ho base 33 i0 (.agg #[.slice none 0 0, .slice none 0 0, .bool false, υ 0, υ 0, υ 0, υ 0, υ 0, υ 0, υ 0, υ 0]) 11 120 Tryz.underlying52 hi hz0 hz1 hz2 rfl (by decide) v n xs hs hown ad m c (l.flatMap Vt.vs) hx (by rw [flat_len Vt.vs 11 Vt.vs_len, ← hl.len]) hl.cells (fun u hu => flatV_one _ u hu) (by unfold maxLen; omega) (by omega) hb ?_
  intro v' w' h1 h2 _
  exact h v' w' h1 (Below.rowT h2 (fun k hk => (hown.lt k hk).1) hb) h2.size
set_option maxHeartbeats 16000000 in
theorem rAll_any {B : Bo} (w : World) (hB : BoIn w B) (hn : B.n + B.m ≤ 2097152) :
 Calls Tryz.prog 43 #[B.v] w fun e w' => (∃ v, e = .returned v ∧ w'.ownsRow w.heap.size 33 11 v (B.n + B.m) ((B.l ++ B.l').flatMap Vt.vs)) ∧ Below w.heap.size w w' := by
 have HB := Lh hB
 clear hB
 unfold Bo.v
 obtain ⟨F_b, HBW⟩ := bx1 w [.slice B.a B.n B.c, .slice B.b B.m B.d, .slice B.e B.k B.f] 55
 have b0 := F_b.o.c 0 _ rfl
 have b1 := F_b.o.c 1 _ rfl
 go_enter Tryz.func43, Tryz.ntmps43
 go_wp2_with (first
  | (at_builtin; refine wpL_appV rfl (.tmp 4) (.tmp 6) rfl (w.heap.size + 1) (.slice none 0 0) 0 [] B.a B.n B.c B.l rfl rfl (World.ownsRow_nil _ _ _ _) (HB.o.keep HBW.o).h1 HB.o.k1 (by omega) (by simp) ?_; intro v1 w1 ho1 hb1 hz1; have HO1 := Lh (show w1.ownsRow (w.heap.size + 1) 33 11 v1 B.n (B.l.flatMap Vt.vs) by simpa using ho1); have F_b1 := Lh (F_b.o.keepN hb1 (by omega)); have HBW1 := Lh (HBW.o.trans (hb1.mono (by omega))); have hs1 : w.heap.size + 1 ≤ w1.heap.size := (by simp at hz1; exact hz1); clear ho1 hb1 hz1 b0 b1; have q1 := F_b1.o.c 1 _ rfl)
  | (at_builtin; refine wpL_appV rfl (.tmp 8) (.tmp 10) rfl (w.heap.size + 1) v1 B.n (B.l.flatMap Vt.vs) B.b B.m B.d B.l' rfl rfl HO1.o (HB.o.keep HBW1.o).h2 HB.o.k2 (by omega) hs1 ?_; intro v2 w2 ho2 hb2 hz2; have HO2 := Lh ho2; have HBW2 := Lh (HBW1.o.trans (hb2.mono (by omega))); clear ho2 hb2 hz2))
 go_ret
 exact ⟨⟨_, rfl, by rw [List.flatMap_append]; exact owns_mono HO2.o (by omega)⟩, HBW2.o⟩
set_option maxHeartbeats 16000000 in
theorem rSameVotes_any {a a' : Option Addr} {c c' n : Nat} {L L' : List Vt} (w : World) (h1 : ShV w a n L) (h2 : ShV w a' n L') (hk : L.map Vt.key = L'.map Vt.key) (hn : n ≤ 2097152) (hs : ∀ V, V ∈ L → V.n ≤ 1000 ∧ V.m ≤ 1000) :
 Calls Tryz.prog 55 #[.slice a n c, .slice a' n c'] w fun e w' => e = .returned (.bool true) ∧ Below w.heap.size w w' := by
 have H1 := Lh h1
 have H2 := Lh h2
 have HK := Lh hk
 have HS := Lh hs
 have HBW := Lh (Below.refl w.heap.size w)
 clear h1 h2 hk hs
 go_enter Tryz.func55, Tryz.ntmps55
 go_wp2_with fail
 go_loopw [5] (fun c5 wr => ∃ i : Nat, i ≤ n ∧ c5 = .int .i64 i ∧ Hid (Below w.heap.size w wr)) (fun c5 _ => n - (intOf c5).toNat)
 case atStart => exact ⟨0, by omega, rfl, HBW.o⟩
 case round =>
  clear HBW
  obtain ⟨i, hi, rfl, HBW⟩ := hrel
  have hwi : IntKind.i64.wrap ((i : Int) + 1) = (i : Int) + 1 := IntWalk.i64_in _ (by omega)
  have hi0 : (0 : Int) ≤ (i : Int) := by omega
  by_cases hlt : i < n
  case pos =>
   have hi2 : (i : Int) < (n : Int) := by omega
   have cV : Tryz.prog.cellsOf 33 = 11 := by kernel_rfl
   obtain ⟨s1, o1, V, hsa, hVL, hvc, hVin⟩ := (H1.o.keep HBW.o).at i hlt
   obtain ⟨s2, o2, U, hsb, hUL, huc, hUin⟩ := (H2.o.keep HBW.o).at i hlt
   obtain ⟨U0, hU0, hkU⟩ := keys_get Vt.key HK.o hVL
   rw [hUL] at hU0
   obtain rfl := Option.some.inj hU0
   obtain ⟨k1, k2, k3, k4, k5, k6⟩ := Vt.same_of_key hkU
   have HKU := Lh (And.intro k2 (And.intro k4 (And.intro k5 k6)))
   have HVN := Lh (HS.o V (List.mem_of_getElem? hVL))
   have HVC := Lh hvc
   have HUC := Lh huc
   have HV := Lh hVin
   have HU := Lh hUin
   clear hVL hUL hvc huc hVin hUin hU0 hkU k1 k2 k3 k4 k5 k6
   rw [hsa, hsb]
   clear hsa hsb
   obtain ⟨-, e0, e1, e2, e3, e4, e5, e6, e7, e8, e9, e10⟩ := HVC.o
   obtain ⟨-, d0, d1, d2, d3, d4, d5, d6, d7, d8, d9, d10⟩ := HUC.o
   go_wp2_with fail
   clear e0 e1 e2 e3 e4 e5 e6 e7 e8 e9 e10 d0 d1 d2 d3 d4 d5 d6 d7 d8 d9 d10
   replace HVC := Lh (HVC.o.keep (Below.refl _ _).drew)
   replace HUC := Lh (HUC.o.keep (Below.refl _ _).drew)
   replace HV := Lh (HV.o.keep (Below.refl _ _).drew)
   replace HU := Lh (HU.o.keep (Below.refl _ _).drew)
   replace HBW := Lh HBW.o.drew
   have hS0 := And.intro HVC.o HUC.o
   refine wp_region_stage 8 (fun w' => VCells w' s1 (o1 + i * 11) V ∧ VCells w' s2 (o2 + i * 11) U) (by kernel_rfl) ?_
   refine tkP (i := 0) (some 17) (.move (.tmp 0)) 52 (fun _ => hS0) ?_
   simp only [sY]
   refine tkP (i := 1) (some 18) (.move (.tmp 5)) 3 (fun _ => hS0) ?_
   simp only [sY]
   refine tkP (i := 2) (some 19) (.indexAddr 52 (.tmp 17) (.tmp 18)) 0 (fun _ => hS0) ?_
   simp only [sY]
   refine tkL (i := 3) (some 20) (.load 33 (.tmp 19)) 33 [8] (v := ?_) hS0 (fun w' hSw => ?_) ?_
   rotate_left
   · obtain ⟨t1, t2⟩ := hSw; obtain ⟨-, e0, e1, e2, e3, e4, e5, e6, e7, e8, e9, e10⟩ := t1; obtain ⟨-, d0, d1, d2, d3, d4, d5, d6, d7, d8, d9, d10⟩ := t2
     unfold bareOp; go_simp; try with_reducible rfl
   simp only [sY]
   refine tkP (i := 4) (some 21) (.move (.tmp 1)) 52 (fun _ => hS0) ?_
   simp only [sY]
   refine tkP (i := 5) (some 22) (.move (.tmp 5)) 3 (fun _ => hS0) ?_
   simp only [sY]
   refine tkP (i := 6) (some 23) (.indexAddr 52 (.tmp 21) (.tmp 22)) 0 (fun _ => hS0) ?_
   simp only [sY]
   refine tkL (i := 7) (some 24) (.load 33 (.tmp 23)) 33 [8] (v := ?_) hS0 (fun w' hSw => ?_) ?_
   rotate_left
   · obtain ⟨t1, t2⟩ := hSw; obtain ⟨-, e0, e1, e2, e3, e4, e5, e6, e7, e8, e9, e10⟩ := t1; obtain ⟨-, d0, d1, d2, d3, d4, d5, d6, d7, d8, d9, d10⟩ := t2
     unfold bareOp; go_simp; try with_reducible rfl
   simp only [sY]
   refine onl (i := 8) (some 25) (.call { callee := .value (.func 10), args := #[.tmp 20, .tmp 24], argTypes := #[33, 33] }) 4 (fun K hK => ?_)
   unfold bareOp
   refine OpW.out (wp_of_enter (run_call _ _ _ _ 10 Tryz.func10 (vs := #[V.v, U.v]) (by simp only [List.map_toArray, List.map_cons, List.map_nil]; rfl) rfl (by kernel_rfl) (by kernel_rfl)) (rSame_any (V := V) (U := U) _ HV.o HU.o HKU.o.1 HKU.o.2.1 HKU.o.2.2.1 HKU.o.2.2.2 HVN.o.1 HVN.o.2) ?_)
   rintro e w5 ⟨rfl, hb5⟩
   refine ⟨_, rfl, ?_⟩
   replace HVC := Lh (HVC.o.keep hb5)
   replace HUC := Lh (HUC.o.keep hb5)
   replace HV := Lh (HV.o.keep hb5)
   replace HU := Lh (HU.o.keep hb5)
   replace HBW := Kt HBW hb5
   clear hb5 hS0
   have hS0 := And.intro HVC.o HUC.o
   refine hK.o _ _ lt8 ?_
   clear hK K
   try simp only [sY]
   refine tkP (i := 9) (some 26) (.unOp .not 4 (.tmp 25)) 4 lt8 ?_
   simp only [sY]
   refine wpAnyB_done (by kernel_rfl) ?_ _
   go_wp2_with fail
   go_roundw
   case rel => exact ⟨i + 1, by omega, by go_num, HBW.o⟩
   case measure => simp [intOf] <;> omega
  case neg =>
   have hd : decide ((i : Int) < (n : Int)) = false := decide_eq_false (by omega)
   have hd' : ¬ ((i : Int) < (n : Int)) := by omega
   go_wp2_with fail
   go_ret
   exact ⟨rfl, HBW.o⟩
open Go Go.RowKit Num Sha
set_option maxHeartbeats 8000000 in
theorem rReveal_aux {a1 a2 b1 b2 : Option Addr} {n m c1 c2 d1 d2 : Nat} {ms ns : List Int} (w : World) (hn : n ≤ 1000) (hm : m ≤ 1000) (h1 : ShI .i64 w a1 n ms) (h2 : ShI .i64 w a2 n ms) (h3 : ShI .u64 w b1 m ns) (h4 : ShI .u64 w b2 m ns) :
 Calls Tryz.prog 11 #[.agg #[.slice a1 n c1, .slice b1 m d1], .agg #[.slice a2 n c2, .slice b2 m d2]] w fun e w' => e = .returned (.bool true) ∧ Below w.heap.size w w' := by
 have H1 := Lh h1
 have H2 := Lh h2
 have H3 := Lh h3
 have H4 := Lh h4
 obtain ⟨F_v, F_u, HBW⟩ := bx2 w [.slice a1 n c1, .slice b1 m d1] 36 [.slice a2 n c2, .slice b2 m d2] 36
 clear h1 h2 h3 h4
 go_enter Tryz.func11, Tryz.ntmps11
 have q0 := F_v.o.c 0 _ rfl
 have q1 := F_v.o.c 1 _ rfl
 have y0 := F_u.o.c 0 _ rfl
 have y1 := F_u.o.c 1 _ rfl
 go_wp2_with fail
 clear q0 q1 y0 y1
 go_loopw [5] (fun cv wr => ∃ (i : Nat), i ≤ n ∧ cv = .int .i64 i ∧ Hid (Cl wr w.heap.size [.slice a1 n c1, .slice b1 m d1]) ∧ Hid (Cl wr (w.heap.size + 1) [.slice a2 n c2, .slice b2 m d2]) ∧ Hid (Below w.heap.size w wr)) (fun cv _ => n - (intOf cv).toNat)
 case atStart => exact ⟨0, by omega, rfl, F_v.o, F_u.o, HBW.o⟩
 case round =>
  clear F_v F_u HBW
  obtain ⟨i, hi, rfl, F_v, F_u, HBW⟩ := hrel
  have hwi : IntKind.i64.wrap ((i : Int) + 1) = (i : Int) + 1 := IntWalk.i64_in _ (by omega)
  have hi0 : (0 : Int) ≤ (i : Int) := by omega
  have q0 := F_v.o.c 0 _ rfl
  have q1 := F_v.o.c 1 _ rfl
  have y0 := F_u.o.c 0 _ rfl
  have y1 := F_u.o.c 1 _ rfl
  by_cases hlt : i < n
  case pos =>
   have hi2 : (i : Int) < (n : Int) := by omega
   obtain ⟨s, o, hsa, hsl, e0, -⟩ := (H1.o.keep HBW.o).at i hlt
   obtain ⟨s', o', hsa', hsl', e0', -⟩ := (H2.o.keep HBW.o).at i hlt
   generalize ms.getD i 0 = x at e0 e0'
   rw [hsa] at q0
   rw [hsa'] at y0
   clear hsa hsa' hsl hsl'
   go_wp2_with fail
   go_region
   go_wp2_with fail
   go_roundw
   case rel => exact ⟨i + 1, by omega, by go_num, F_v.o.drew, F_u.o.drew, HBW.o.drew⟩
   case measure => simp [intOf] <;> omega
  case neg =>
   have hi2 : ¬ ((i : Int) < (n : Int)) := by omega
   go_wp2_with fail
   clear q0 q1 y0 y1
   clear hwi hi0 hi2
   obtain ⟨wb, rfl⟩ : ∃ wb, wb = wr := ⟨_, rfl⟩
   go_loopw [6] (fun cv wr => ∃ (i : Nat), i ≤ m ∧ cv = .int .i64 i ∧ Hid (Cl wr w.heap.size [.slice a1 n c1, .slice b1 m d1]) ∧ Hid (Cl wr (w.heap.size + 1) [.slice a2 n c2, .slice b2 m d2]) ∧ Hid (Below w.heap.size w wr)) (fun cv _ => m - (intOf cv).toNat)
   case atStart => exact ⟨0, by omega, rfl, F_v.o, F_u.o, HBW.o⟩
   case round =>
    clear F_v F_u HBW
    obtain ⟨i, hi, rfl, F_v, F_u, HBW⟩ := hrel
    have hwi : IntKind.i64.wrap ((i : Int) + 1) = (i : Int) + 1 := IntWalk.i64_in _ (by omega)
    have hi0 : (0 : Int) ≤ (i : Int) := by omega
    have q0 := F_v.o.c 0 _ rfl
    have q1 := F_v.o.c 1 _ rfl
    have y0 := F_u.o.c 0 _ rfl
    have y1 := F_u.o.c 1 _ rfl
    by_cases hlt : i < m
    case pos =>
     have hi2 : (i : Int) < (m : Int) := by omega
     obtain ⟨s, o, hsa, hsl, e0, -⟩ := (H3.o.keep HBW.o).at i hlt
     obtain ⟨s', o', hsa', hsl', e0', -⟩ := (H4.o.keep HBW.o).at i hlt
     generalize ns.getD i 0 = x at e0 e0'
     rw [hsa] at q1
     rw [hsa'] at y1
     clear hsa hsa' hsl hsl'
     go_wp2_with fail
     go_region
     go_wp2_with fail
     go_roundw
     case rel => exact ⟨i + 1, by omega, by go_num, F_v.o.drew, F_u.o.drew, HBW.o.drew⟩
     case measure => simp [intOf] <;> omega
    case neg =>
     have hi2 : ¬ ((i : Int) < (m : Int)) := by omega
     go_wp2_with fail
     clear q0 q1 y0 y1
     clear hwi hi0 hi2
     go_ret
     exact ⟨rfl, HBW.o⟩
theorem rReveal_any {R S : Rv} (w : World) (hR : RvIn w R) (hS : RvIn w S) (h1 : R.ms = S.ms) (h2 : R.ns = S.ns) (hn : R.n ≤ 1000) (hm : R.m ≤ 1000) :
 Calls Tryz.prog 11 #[R.v, S.v] w fun e w' => e = .returned (.bool true) ∧ Below w.heap.size w w' := by
 have e1 := hR.h1.len
 have e2 := hS.h1.len
 have e3 := hR.h2.len
 have e4 := hS.h2.len
 obtain ⟨a1, n, c1, ms, b1, m, d1, ns⟩ := R
 obtain ⟨a2, n', c2, ms', b2, m', d2, ns'⟩ := S
 simp only at *
 subst h1 h2
 obtain rfl : n' = n := by omega
 obtain rfl : m' = m := by omega
 exact rReveal_aux w hn hm hR.h1 hS.h1 hR.h2 hS.h2
end Go.Proofs.YtlbldpkgnonbpaaGreatDoor
