/- Challenge of any booth. -/
import Derived.Test.YtlbldpkgnonbpaaDoorNzW
import Derived.Test.YtlbldpkgnonbpaaDoorNzS
set_option linter.unusedSimpArgs false
set_option linter.unusedVariables false
set_option maxRecDepth 100000
namespace Go.Proofs.YtlbldpkgnonbpaaDoor
open Go Go.RowKit Num Sha
def ChaR (w : World) (P Q G y n : Int) (one : Bool) (B : Bo) (V : Vt) (R : Rv) (e : Ending) (w' : World) : Prop := Below w.heap.size w w' ∧ ∃ k e', AdmS P Q G y n one B V k e' ∧ ((e' ≠ 0 ∧ e = .returned (.tuple #[.agg #[.slice none 0 0, .slice none 0 0, .slice none 0 0], .int .i64 e'])) ∨
  (e' = 0 ∧ ((¬ (rangeP Q n.toNat R ∧ matchP P G y n.toNat V R) ∧ e = .returned (.tuple #[.agg #[.slice none 0 0, .slice none 0 0, .slice none 0 0], .int .i64 362])) ∨ ((rangeP Q n.toNat R ∧ matchP P G y n.toNat V R) ∧
    ((k = 256 ∧ e = .returned (.tuple #[.agg #[.slice none 0 0, .slice none 0 0, .slice none 0 0], .int .i64 9])) ∨ (k ≠ 256 ∧ BackB w.heap.size w' B.l (B.l' ++ [V]) (B.rs ++ [R]) B.n (B.m + 1) (B.k + 1) e))))))
set_option maxHeartbeats 16000000 in
theorem chal_any {P Q G y n : Int} {one : Bool} {B : Bo} {V : Vt} {R : Rv} (w : World) (hT : Tabs w) (hP : 0 ≤ P) (hQ : 0 ≤ Q) (hG : 0 ≤ G) (hy : 0 ≤ y) (hB : BoIn w B) (hs : BoSm B) (hV : VtIn w V) (hR : RvIn w R) (hn9 : V.n ≤ 10000) (hm9 : V.m ≤ 10000) (hrn : R.n ≤ 1000) (hrm : R.m ≤ 1000) :
    Calls Tryd.prog 20 #[.agg #[.int .u64 P, .int .u64 Q, .int .u64 G], .int .u64 y, .int .i64 n, .bool one, B.v, V.v, R.v] w (ChaR w P Q G y n one B V R) := by
  have HT := Lh hT
  have HB := Lh hB
  have HS := Lh hs
  have HV := Lh hV
  have HR := Lh hR
  clear hT hB hs hV hR
  have hBs : B.n ≤ 1000 ∧ B.m ≤ 1000 ∧ B.k ≤ 1000 := by have := HS.o.s1; have := HS.o.s2; omega
  unfold Bo.v Vt.v Rv.v
  have F_g := Lh (show Cl (((((w.alloc (.cells #[.int .u64 P, .int .u64 Q, .int .u64 G] 49)).alloc (.cells #[.slice B.a B.n B.c, .slice B.b B.m B.d, .slice B.e B.k B.f] 53)).alloc (.cells V.ca 29)).alloc (.cells #[.slice R.a R.n R.c, .slice R.b R.m R.d] 57)).alloc (.cells #[.slice none 0 0, .slice none 0 0, .slice none 0 0] 53)) (w.heap.size) [.int .u64 P, .int .u64 Q, .int .u64 G] from ((((Cl.at w [.int .u64 P, .int .u64 Q, .int .u64 G] 49 (w.heap.size) (by simp)).alloc _).alloc _).alloc _).alloc _)
  have F_b := Lh (show Cl (((((w.alloc (.cells #[.int .u64 P, .int .u64 Q, .int .u64 G] 49)).alloc (.cells #[.slice B.a B.n B.c, .slice B.b B.m B.d, .slice B.e B.k B.f] 53)).alloc (.cells V.ca 29)).alloc (.cells #[.slice R.a R.n R.c, .slice R.b R.m R.d] 57)).alloc (.cells #[.slice none 0 0, .slice none 0 0, .slice none 0 0] 53)) (w.heap.size + 1) [.slice B.a B.n B.c, .slice B.b B.m B.d, .slice B.e B.k B.f] from (((Cl.at (w.alloc (.cells #[.int .u64 P, .int .u64 Q, .int .u64 G] 49)) [.slice B.a B.n B.c, .slice B.b B.m B.d, .slice B.e B.k B.f] 53 (w.heap.size + 1) (by simp)).alloc _).alloc _).alloc _)
  have F_v := Lh (show Cl (((((w.alloc (.cells #[.int .u64 P, .int .u64 Q, .int .u64 G] 49)).alloc (.cells #[.slice B.a B.n B.c, .slice B.b B.m B.d, .slice B.e B.k B.f] 53)).alloc (.cells V.ca 29)).alloc (.cells #[.slice R.a R.n R.c, .slice R.b R.m R.d] 57)).alloc (.cells #[.slice none 0 0, .slice none 0 0, .slice none 0 0] 53)) (w.heap.size + 1 + 1) V.cl from ((Cl.at ((w.alloc (.cells #[.int .u64 P, .int .u64 Q, .int .u64 G] 49)).alloc (.cells #[.slice B.a B.n B.c, .slice B.b B.m B.d, .slice B.e B.k B.f] 53)) V.cl 29 (w.heap.size + 1 + 1) (by simp)).alloc _).alloc _)
  have F_r := Lh (show Cl (((((w.alloc (.cells #[.int .u64 P, .int .u64 Q, .int .u64 G] 49)).alloc (.cells #[.slice B.a B.n B.c, .slice B.b B.m B.d, .slice B.e B.k B.f] 53)).alloc (.cells V.ca 29)).alloc (.cells #[.slice R.a R.n R.c, .slice R.b R.m R.d] 57)).alloc (.cells #[.slice none 0 0, .slice none 0 0, .slice none 0 0] 53)) (w.heap.size + 1 + 1 + 1) [.slice R.a R.n R.c, .slice R.b R.m R.d] from (Cl.at (((w.alloc (.cells #[.int .u64 P, .int .u64 Q, .int .u64 G] 49)).alloc (.cells #[.slice B.a B.n B.c, .slice B.b B.m B.d, .slice B.e B.k B.f] 53)).alloc (.cells V.ca 29)) [.slice R.a R.n R.c, .slice R.b R.m R.d] 57 (w.heap.size + 1 + 1 + 1) (by simp)).alloc _)
  have F_o := Lh (show Cl (((((w.alloc (.cells #[.int .u64 P, .int .u64 Q, .int .u64 G] 49)).alloc (.cells #[.slice B.a B.n B.c, .slice B.b B.m B.d, .slice B.e B.k B.f] 53)).alloc (.cells V.ca 29)).alloc (.cells #[.slice R.a R.n R.c, .slice R.b R.m R.d] 57)).alloc (.cells #[.slice none 0 0, .slice none 0 0, .slice none 0 0] 53)) (w.heap.size + 1 + 1 + 1 + 1) [.slice none 0 0, .slice none 0 0, .slice none 0 0] from Cl.at ((((w.alloc (.cells #[.int .u64 P, .int .u64 Q, .int .u64 G] 49)).alloc (.cells #[.slice B.a B.n B.c, .slice B.b B.m B.d, .slice B.e B.k B.f] 53)).alloc (.cells V.ca 29)).alloc (.cells #[.slice R.a R.n R.c, .slice R.b R.m R.d] 57)) [.slice none 0 0, .slice none 0 0, .slice none 0 0] 53 (w.heap.size + 1 + 1 + 1 + 1) (by simp))
  have HBW := Lh (show Below w.heap.size w (((((w.alloc (.cells #[.int .u64 P, .int .u64 Q, .int .u64 G] 49)).alloc (.cells #[.slice B.a B.n B.c, .slice B.b B.m B.d, .slice B.e B.k B.f] 53)).alloc (.cells V.ca 29)).alloc (.cells #[.slice R.a R.n R.c, .slice R.b R.m R.d] 57)).alloc (.cells #[.slice none 0 0, .slice none 0 0, .slice none 0 0] 53)) from (((((Below.refl _ _).alloc (by simp <;> omega) _).alloc (by simp <;> omega) _).alloc (by simp <;> omega) _).alloc (by simp <;> omega) _).alloc (by simp <;> omega) _)
  go_enter Tryd.func20, Tryd.ntmps20
  have q_g_0 := F_g.o.c 0 _ rfl
  have q_g_1 := F_g.o.c 1 _ rfl
  have q_g_2 := F_g.o.c 2 _ rfl
  have q_b_0 := F_b.o.c 0 _ rfl
  have q_b_1 := F_b.o.c 1 _ rfl
  have q_b_2 := F_b.o.c 2 _ rfl
  have q_v_0 := F_v.o.c 0 _ rfl
  have q_v_1 := F_v.o.c 1 _ rfl
  have q_v_2 := F_v.o.c 2 _ rfl
  have q_v_3 := F_v.o.c 3 _ rfl
  have q_v_4 := F_v.o.c 4 _ rfl
  have q_v_5 := F_v.o.c 5 _ rfl
  have q_v_6 := F_v.o.c 6 _ rfl
  have q_v_7 := F_v.o.c 7 _ rfl
  have q_v_8 := F_v.o.c 8 _ rfl
  have q_v_9 := F_v.o.c 9 _ rfl
  have q_v_10 := F_v.o.c 10 _ rfl
  go_wp2_with fail
  clear q_g_0 q_g_1 q_g_2 q_b_0 q_b_1 q_b_2 q_v_0 q_v_1 q_v_2 q_v_3 q_v_4 q_v_5 q_v_6 q_v_7 q_v_8 q_v_9 q_v_10
  refine (admit_any (V := V) _ (HT.o.below HBW.o) hP hQ hG hy (HB.o.keep HBW.o) HS.o (HV.o.keep HBW.o)).mono ?_
  rintro e w1 ⟨⟨k, e', rfl, hA⟩, hb1⟩
  have HA := Lh hA
  clear hA
  replace F_g := Lh (F_g.o.keep hb1)
  replace F_b := Lh (F_b.o.keep hb1)
  replace F_v := Lh (F_v.o.keep hb1)
  replace F_r := Lh (F_r.o.keep hb1)
  replace F_o := Lh (F_o.o.keep hb1)
  replace HBW := Lh (HBW.o.trans (hb1.mono HBW.o.size))
  clear hb1
  by_cases he : e' = 0
  case neg =>
   have HE := Lh he
   go_wp2_with (first
     | (refine wpL_storeCl rfl 53 (.tmp 14) (.tmp 33) (w.heap.size + 1 + 1 + 1 + 1) 0 _ [.slice none 0 0, .slice none 0 0, .slice none 0 0] [.slice none 0 0, .slice none 0 0, .slice none 0 0] rfl rfl rfl rfl (by kernel_rfl) (by intro u hu; simp at hu; rcases hu with rfl | rfl | rfl <;> rfl) F_o.o (by simp) rfl ?_
        intro w8 hc8 hg8 hz8
        have F_q := Lh hc8
        have HG8 := Lh hg8
        clear hc8 hg8 hz8))
   refine bodyPost_ret (res_booth2 rfl F_q.o _ rfl rfl) rfl ?_
   exact ⟨HBW.o.trans (HG8.o.blw (n := w.heap.size) (by omega) HBW.o.size), k, e', HA.o, .inl ⟨HE.o, rfl⟩⟩
  case pos =>
  subst he
  have q_g_0 := F_g.o.c 0 _ rfl
  have q_g_1 := F_g.o.c 1 _ rfl
  have q_g_2 := F_g.o.c 2 _ rfl
  have q_v_0 := F_v.o.c 0 _ rfl
  have q_v_1 := F_v.o.c 1 _ rfl
  have q_v_2 := F_v.o.c 2 _ rfl
  have q_v_3 := F_v.o.c 3 _ rfl
  have q_v_4 := F_v.o.c 4 _ rfl
  have q_v_5 := F_v.o.c 5 _ rfl
  have q_v_6 := F_v.o.c 6 _ rfl
  have q_v_7 := F_v.o.c 7 _ rfl
  have q_v_8 := F_v.o.c 8 _ rfl
  have q_v_9 := F_v.o.c 9 _ rfl
  have q_v_10 := F_v.o.c 10 _ rfl
  have q_r_0 := F_r.o.c 0 _ rfl
  have q_r_1 := F_r.o.c 1 _ rfl
  go_wp2_with fail
  clear q_g_0 q_g_1 q_g_2 q_v_0 q_v_1 q_v_2 q_v_3 q_v_4 q_v_5 q_v_6 q_v_7 q_v_8 q_v_9 q_v_10 q_r_0 q_r_1
  refine (matches_any (V := V) (R := R) _ (HT.o.below HBW.o) hP hQ hG hy (HV.o.keep HBW.o) (HR.o.keep HBW.o) hrn).mono ?_
  rintro e wm ⟨hbm, hm2⟩
  replace F_g := Lh (F_g.o.keep hbm)
  replace F_b := Lh (F_b.o.keep hbm)
  replace F_v := Lh (F_v.o.keep hbm)
  replace F_r := Lh (F_r.o.keep hbm)
  replace F_o := Lh (F_o.o.keep hbm)
  replace HBW := Lh (HBW.o.trans (hbm.mono HBW.o.size))
  clear hbm
  rcases hm2 with ⟨h1, -⟩ | ⟨-, ⟨h1, rfl⟩ | ⟨h1, vm, rfl, hvm⟩⟩
  · exact absurd HA.o.count.1 h1
  ·
    have HNR := Lh (show ¬ (rangeP Q n.toNat R ∧ matchP P G y n.toNat V R) from fun h => h1 h.1)
    go_wp2_with (first
      | (refine wpL_storeCl rfl 53 (.tmp 14) (.tmp 50) (w.heap.size + 1 + 1 + 1 + 1) 0 _ [.slice none 0 0, .slice none 0 0, .slice none 0 0] [.slice none 0 0, .slice none 0 0, .slice none 0 0] rfl rfl rfl rfl (by kernel_rfl) (by intro u hu; simp at hu; rcases hu with rfl | rfl | rfl <;> rfl) F_o.o (by simp) rfl ?_
         intro w8 hc8 hg8 hz8
         have F_q := Lh hc8
         have HG8 := Lh hg8
         clear hc8 hg8 hz8))
    refine bodyPost_ret (res_booth2 rfl F_q.o _ rfl rfl) rfl ?_
    exact ⟨HBW.o.trans (HG8.o.blw (n := w.heap.size) (by omega) HBW.o.size), _, _, HA.o, .inr ⟨rfl, .inl ⟨HNR.o, rfl⟩⟩⟩
  cases vm with
  | false =>
   have HNR := Lh (show ¬ (rangeP Q n.toNat R ∧ matchP P G y n.toNat V R) from fun h => by have := hvm.2 h.2; cases this)
   go_wp2_with (first
     | (refine wpL_storeCl rfl 53 (.tmp 14) (.tmp 50) (w.heap.size + 1 + 1 + 1 + 1) 0 _ [.slice none 0 0, .slice none 0 0, .slice none 0 0] [.slice none 0 0, .slice none 0 0, .slice none 0 0] rfl rfl rfl rfl (by kernel_rfl) (by intro u hu; simp at hu; rcases hu with rfl | rfl | rfl <;> rfl) F_o.o (by simp) rfl ?_
        intro w8 hc8 hg8 hz8
        have F_q := Lh hc8
        have HG8 := Lh hg8
        clear hc8 hg8 hz8))
   refine bodyPost_ret (res_booth2 rfl F_q.o _ rfl rfl) rfl ?_
   exact ⟨HBW.o.trans (HG8.o.blw (n := w.heap.size) (by omega) HBW.o.size), _, _, HA.o, .inr ⟨rfl, .inl ⟨HNR.o, rfl⟩⟩⟩
  | true =>
  have HYES := Lh (show rangeP Q n.toNat R ∧ matchP P G y n.toNat V R from ⟨h1, hvm.1 rfl⟩)
  clear h1 hvm
  by_cases hk : k = 256
  case pos =>
   have HK := Lh hk
   subst hk
   go_wp2_with (first
     | (refine wpL_storeCl rfl 53 (.tmp 14) (.tmp 53) (w.heap.size + 1 + 1 + 1 + 1) 0 _ [.slice none 0 0, .slice none 0 0, .slice none 0 0] [.slice none 0 0, .slice none 0 0, .slice none 0 0] rfl rfl rfl rfl (by kernel_rfl) (by intro u hu; simp at hu; rcases hu with rfl | rfl | rfl <;> rfl) F_o.o (by simp) rfl ?_
        intro w8 hc8 hg8 hz8
        have F_q := Lh hc8
        have HG8 := Lh hg8
        clear hc8 hg8 hz8))
   refine bodyPost_ret (res_booth2 rfl F_q.o _ rfl rfl) rfl ?_
   exact ⟨HBW.o.trans (HG8.o.blw (n := w.heap.size) (by omega) HBW.o.size), _, _, HA.o, .inr ⟨rfl, .inr ⟨HYES.o, .inl ⟨rfl, rfl⟩⟩⟩⟩
  case neg =>
  have hd : decide (k = 256) = false := decide_eq_false hk
  have hd2 : (k == 256) = false := by simpa using hk
  have HK := Lh hk
  clear hk
  have q_b_0 := F_b.o.c 0 _ rfl
  have q_b_1 := F_b.o.c 1 _ rfl
  have q_b_2 := F_b.o.c 2 _ rfl
  go_wp2_with fail
  clear q_b_0 q_b_1 q_b_2
  refine (twin_any _ (HB.o.keep HBW.o) HS.o).mono ?_
  rintro e w2 ⟨⟨v1, v2, v3, N1, N2, N3, rfl, hn1, hn2, hn3, hn4, hr1, hr2, hr3⟩, hb2⟩
  have hlt0 := F_o.o.lt
  obtain ⟨n0, hn0⟩ : ∃ n, wm.heap.size = n := ⟨_, rfl⟩
  rw [hn0] at hlt0 hn1 hr1
  obtain ⟨a1, c1, rfl⟩ := hr1.slice
  obtain ⟨a2, c2, rfl⟩ := hr2.slice
  obtain ⟨a3, c3, rfl⟩ := hr3.slice
  replace F_v := Lh (F_v.o.keep hb2)
  replace F_r := Lh (F_r.o.keep hb2)
  replace F_o := Lh (F_o.o.keep hb2)
  replace HBW := Lh (HBW.o.trans (hb2.mono HBW.o.size))
  have HD1 := Lh hr1
  have HD2 := Lh hr2
  have HD3 := Lh hr3
  clear hb2 hr1 hr2 hr3 hn0 F_b
  obtain ⟨wo, rfl⟩ : ∃ wo, wo = w2 := ⟨_, rfl⟩
  go_wp2_with fail
  have F_t := Lh (Cl.at wo [.slice a1 B.n c1, .slice a2 B.m c2, .slice a3 B.k c3] 53 wo.heap.size rfl)
  replace F_v := Lh (F_v.o.alloc (.cells #[.slice a1 B.n c1, .slice a2 B.m c2, .slice a3 B.k c3] 53))
  replace F_r := Lh (F_r.o.alloc (.cells #[.slice a1 B.n c1, .slice a2 B.m c2, .slice a3 B.k c3] 53))
  replace F_o := Lh (F_o.o.alloc (.cells #[.slice a1 B.n c1, .slice a2 B.m c2, .slice a3 B.k c3] 53))
  replace HBW := Lh (HBW.o.alloc HBW.o.size (.cells #[.slice a1 B.n c1, .slice a2 B.m c2, .slice a3 B.k c3] 53))
  obtain ⟨HX, hHX⟩ : ∃ B, B = wo.heap.size := ⟨_, rfl⟩
  have hls : HX < (wo.alloc (.cells #[.slice a1 B.n c1, .slice a2 B.m c2, .slice a3 B.k c3] 53)).heap.size := by rw [hHX]; simp
  rw [← hHX] at F_t hn4 ⊢
  clear hHX
  have HPS := Lh (show n0 ≤ N3 by omega)
  have HR1 := Lh ((HD1.o.rp (fun b => n0 ≤ b ∧ b < N1) (fun b h1 h2 => ⟨h1, h2⟩)).alloc (.cells #[.slice a1 B.n c1, .slice a2 B.m c2, .slice a3 B.k c3] 53))
  have HR2 := Lh ((HD2.o.rp (fun b => (N1 ≤ b ∧ b < N2) ∨ HX < b) (fun b h1 h2 => .inl ⟨h1, h2⟩)).alloc (.cells #[.slice a1 B.n c1, .slice a2 B.m c2, .slice a3 B.k c3] 53))
  have HR3 := Lh ((HD3.o.rp (fun b => (N2 ≤ b ∧ b < N3) ∨ HX < b) (fun b h1 h2 => .inl ⟨h1, h2⟩)).alloc (.cells #[.slice a1 B.n c1, .slice a2 B.m c2, .slice a3 B.k c3] 53))
  have HOG2 := Lh (show ∀ g, (Value.slice a2 B.m c2).ownBlock = some g → N1 ≤ g ∧ g < N2 from fun g hg => ⟨(HD2.o.choose_spec.1.lt g hg).1, HD2.o.choose_spec.2.1 g hg⟩)
  have HOF2 := Lh (show ∀ g, (Value.slice a2 B.m c2).ownBlock = some g → g < HX + 1 from fun g hg => by have := (HOG2.o g hg).2; omega)
  have HOG3 := Lh (show ∀ g, (Value.slice a3 B.k c3).ownBlock = some g → N2 ≤ g ∧ g < N3 from fun g hg => ⟨(HD3.o.choose_spec.1.lt g hg).1, HD3.o.choose_spec.2.1 g hg⟩)
  have HOF3 := Lh (show ∀ g, (Value.slice a3 B.k c3).ownBlock = some g → g < HX + 1 from fun g hg => by have := (HOG3.o g hg).2; omega)
  obtain ⟨wx, hwx⟩ : ∃ wx, wx = wo.alloc (.cells #[.slice a1 B.n c1, .slice a2 B.m c2, .slice a3 B.k c3] 53) := ⟨_, rfl⟩
  rw [← hwx] at F_t HR1 HR2 HR3 HBW hls F_v F_r F_o ⊢
  clear hwx HD1 HD2 HD3
  replace F_t := Lh F_t.o.drew
  replace F_v := Lh F_v.o.drew
  replace F_r := Lh F_r.o.drew
  replace F_o := Lh F_o.o.drew
  replace HR1 := Lh HR1.o.drew
  replace HR2 := Lh HR2.o.drew
  replace HR3 := Lh HR3.o.drew
  replace HBW := Lh HBW.o.drew
  have hS : Cl wx.drew HX [.slice a1 B.n c1, .slice a2 B.m c2, .slice a3 B.k c3] ∧ Cl wx.drew (w.heap.size + 1 + 1) V.cl ∧ Cl wx.drew (w.heap.size + 1 + 1 + 1) [.slice R.a R.n R.c, .slice R.b R.m R.d] := ⟨F_t.o, F_v.o, F_r.o⟩
  refine wp_region_stage 11 (fun w' => Cl w' HX [.slice a1 B.n c1, .slice a2 B.m c2, .slice a3 B.k c3] ∧ Cl w' (w.heap.size + 1 + 1) V.cl ∧ Cl w' (w.heap.size + 1 + 1 + 1) [.slice R.a R.n R.c, .slice R.b R.m R.d]) (by kernel_rfl) ?_
  refine tkP (i := 0) (some 56) (.fieldAddr 53 (.tmp 20) 1) 0 (v := ?_) (fun _ => hS) (fun w => ?_) ?_
  rotate_left; · unfold bareOp; go_simp; try with_reducible rfl
  simp only [Act.put, sZ]
  refine tkL (i := 1) (some 57) (.load 50 (.tmp 56)) 50 [5, 9, 10, 11] (v := ?_) hS (fun w' hSw => ?_) ?_
  rotate_left
  · obtain ⟨s1, s2, s3⟩ := hSw; have t1 := s1.c 1 _ rfl; have t2 := s1.c 2 _ rfl; obtain ⟨⟨q0, q1, q2, q3, q4, q5, q6, q7, q8, q9, q10⟩, -⟩ := s2.k11; have r0 := s3.c 0 _ rfl; have r1 := s3.c 1 _ rfl
    unfold bareOp; go_simp; try with_reducible rfl
  simp only [Act.put, sZ]
  refine tkL (i := 2) (some 58) (.load 29 (.tmp 12)) 29 [3, 4, 5, 9, 10, 11] (v := ?_) hS (fun w' hSw => ?_) ?_
  rotate_left
  · obtain ⟨s1, s2, s3⟩ := hSw; have t1 := s1.c 1 _ rfl; have t2 := s1.c 2 _ rfl; obtain ⟨⟨q0, q1, q2, q3, q4, q5, q6, q7, q8, q9, q10⟩, -⟩ := s2.k11; have r0 := s3.c 0 _ rfl; have r1 := s3.c 1 _ rfl
    unfold bareOp; go_simp; try with_reducible rfl
  simp only [Act.put, sZ]
  refine tkP (i := 6) (some 62) (.fieldAddr 53 (.tmp 20) 2) 0 (v := ?_) (fun _ => hS) (fun w => ?_) ?_
  rotate_left; · unfold bareOp; go_simp; try with_reducible rfl
  simp only [Act.put, sZ]
  refine tkL (i := 7) (some 63) (.load 51 (.tmp 62)) 51 [11] (v := ?_) hS (fun w' hSw => ?_) ?_
  rotate_left
  · obtain ⟨s1, s2, s3⟩ := hSw; have t1 := s1.c 1 _ rfl; have t2 := s1.c 2 _ rfl; obtain ⟨⟨q0, q1, q2, q3, q4, q5, q6, q7, q8, q9, q10⟩, -⟩ := s2.k11; have r0 := s3.c 0 _ rfl; have r1 := s3.c 1 _ rfl
    unfold bareOp; go_simp; try with_reducible rfl
  simp only [Act.put, sZ]
  refine tkL (i := 8) (some 64) (.load 57 (.tmp 13)) 57 [9, 10, 11] (v := ?_) hS (fun w' hSw => ?_) ?_
  rotate_left
  · obtain ⟨s1, s2, s3⟩ := hSw; have t1 := s1.c 1 _ rfl; have t2 := s1.c 2 _ rfl; obtain ⟨⟨q0, q1, q2, q3, q4, q5, q6, q7, q8, q9, q10⟩, -⟩ := s2.k11; have r0 := s3.c 0 _ rfl; have r1 := s3.c 1 _ rfl
    unfold bareOp; go_simp; try with_reducible rfl
  simp only [Act.put, sZ]
  refine onl (i := 3) (some 59) (.call { callee := .value (.func 41), args := #[.tmp 58], argTypes := #[29] }) 29 (fun K hK => ?_)
  unfold bareOp
  go_wp2_with (go_at_call 41; refine (twinVote_new (V := V) _ (HV.o.keep HBW.o) hn9 hm9).mono ?_; rintro e w5 ⟨U, rfl, hU5, hS5, hh1, hh2, hb5⟩)
  replace F_t := Lh (F_t.o.keep hb5)
  replace F_v := Lh (F_v.o.keep hb5)
  replace F_r := Lh (F_r.o.keep hb5)
  replace F_o := Lh (F_o.o.keep hb5)
  replace HR1 := Lh (HR1.o.keep hb5)
  replace HR2 := Lh (HR2.o.keep hb5)
  replace HR3 := Lh (HR3.o.keep hb5)
  replace HBW := Lh (HBW.o.trans (hb5.mono HBW.o.size))
  replace hS := (show Cl _ HX [.slice a1 B.n c1, .slice a2 B.m c2, .slice a3 B.k c3] ∧ Cl _ (w.heap.size + 1 + 1) V.cl ∧ Cl _ (w.heap.size + 1 + 1 + 1) [.slice R.a R.n R.c, .slice R.b R.m R.d] from ⟨F_t.o, F_v.o, F_r.o⟩)
  have HU5 := Lh hU5
  have HS5 := Lh hS5
  have HH5 := Lh (show highB U.a U.n (HX + 1) ∧ highB U.b U.m (HX + 1) from ⟨hh1.mono (by (try simp only [World.size_drew]); omega), hh2.mono (by (try simp only [World.size_drew]); omega)⟩)
  have hz5 := hb5.size
  have hls5 : HX < w5.heap.size := by (try simp only [World.size_drew] at hz5); omega
  unfold Vt.v
  clear hb5 hU5 hS5 hz5 hh1 hh2
  refine hK.o _ _ (fun _ => hS) ?_
  clear hK K
  try simp only [Act.put, sZ]
  refine onl (i := 4) (some 60) (.buildSlice 50 1 #[(0, .tmp 59)]) 50 (fun K hK => ?_)
  unfold bareOp
  go_wp2_with fail
  replace F_t := Lh (F_t.o.alloc (.cells U.ca 29))
  replace F_v := Lh (F_v.o.alloc (.cells U.ca 29))
  replace F_r := Lh (F_r.o.alloc (.cells U.ca 29))
  replace F_o := Lh (F_o.o.alloc (.cells U.ca 29))
  replace HR1 := Lh (HR1.o.alloc (.cells U.ca 29))
  replace HR2 := Lh (HR2.o.alloc (.cells U.ca 29))
  replace HR3 := Lh (HR3.o.alloc (.cells U.ca 29))
  replace HBW := Lh (HBW.o.alloc HBW.o.size (.cells U.ca 29))
  replace hS := (show Cl _ HX [.slice a1 B.n c1, .slice a2 B.m c2, .slice a3 B.k c3] ∧ Cl _ (w.heap.size + 1 + 1) V.cl ∧ Cl _ (w.heap.size + 1 + 1 + 1) [.slice R.a R.n R.c, .slice R.b R.m R.d] from ⟨F_t.o, F_v.o, F_r.o⟩)
  replace HU5 := Lh (HU5.o.keep ((Below.refl _ _).alloc (Nat.le_refl _) (.cells U.ca 29)))
  refine hK.o _ _ (fun _ => hS) ?_
  clear hK K
  try simp only [Act.put, sZ]
  refine onl (i := 5) (some 61) (.call { callee := .builtin .append, args := #[.tmp 57, .tmp 60], argTypes := #[50, 50] }) 50 (fun K hK => ?_)
  unfold bareOp
  refine wp_pushV (.tmp 57) (.tmp 60) rfl (fun b => (N1 ≤ b ∧ b < N2) ∨ HX < b) B.m w5.heap.size (.slice a2 B.m c2) B.l' U V rfl rfl HR2.o (cell_list_at _ _ _ _ rfl) (by omega) (.inr (by simp <;> omega)) HU5.o ⟨HH5.o.1.off HOF2.o, HH5.o.2.off HOF2.o⟩ ⟨HH5.o.1.inB _ (fun b hb => .inr (by omega)), HH5.o.2.inB _ (fun b hb => .inr (by omega))⟩ HS5.o.key ?_
  intro a9 c9 w9 hR9 hg9
  replace HR2 := Lh hR9
  replace HR1 := Lh (HR1.o.grown hg9 (fun g hg => by have := (HOG2.o g hg); simp only [not_and, not_or, Nat.not_lt]; omega))
  replace HR3 := Lh (HR3.o.grown hg9 (fun g hg => by have := (HOG2.o g hg); simp only [not_and, not_or, Nat.not_lt]; omega))
  have HB9 := Lh (Below.rowT (n := n0) hg9 (fun g hg => by have := (HOG2.o g hg).1; omega) (by simp <;> omega))
  replace F_v := Lh (F_v.o.keepN HB9.o (by omega))
  replace F_r := Lh (F_r.o.keepN HB9.o (by omega))
  replace F_o := Lh (F_o.o.keepN HB9.o (by omega))
  replace F_t := Lh (F_t.o.grownX hg9 (fun g hg => by have := (HOG2.o g hg).2; omega))
  replace HBW := Lh (HBW.o.trans (HB9.o.mono (by omega)))
  have hz9 := hg9.size
  have hlsw9 : HX < w9.heap.size := by simp at hz9; omega
  replace hS := (show Cl _ HX [.slice a1 B.n c1, .slice a2 B.m c2, .slice a3 B.k c3] ∧ Cl _ (w.heap.size + 1 + 1) V.cl ∧ Cl _ (w.heap.size + 1 + 1 + 1) [.slice R.a R.n R.c, .slice R.b R.m R.d] from ⟨F_t.o, F_v.o, F_r.o⟩)
  clear HB9 hR9 hg9 hz9
  refine hK.o _ _ (fun _ => hS) ?_
  clear hK K
  try simp only [Act.put, sZ]
  refine tkP (i := 12) (some 68) (.fieldAddr 53 (.tmp 20) 1) 0 (v := ?_) (fun _ => hS) (fun w => ?_) ?_
  rotate_left; · unfold bareOp; go_simp; try with_reducible rfl
  simp only [Act.put, sZ]
  refine onl (i := 9) (some 65) (.call { callee := .value (.func 42), args := #[.tmp 64], argTypes := #[57] }) 57 (fun K hK => ?_)
  unfold bareOp
  go_wp2_with (go_at_call 42; refine (twinReveal_new (R := R) _ (HR.o.keep HBW.o) (by omega) (by omega)).mono ?_; rintro e w7 ⟨T, rfl, hU5, hS5, hh1, hh2, hb5⟩)
  replace F_t := Lh (F_t.o.keep hb5)
  replace F_v := Lh (F_v.o.keep hb5)
  replace F_r := Lh (F_r.o.keep hb5)
  replace F_o := Lh (F_o.o.keep hb5)
  replace HR1 := Lh (HR1.o.keep hb5)
  replace HR2 := Lh (HR2.o.keep hb5)
  replace HR3 := Lh (HR3.o.keep hb5)
  replace HBW := Lh (HBW.o.trans (hb5.mono HBW.o.size))
  replace hS := (show Cl _ HX [.slice a1 B.n c1, .slice a2 B.m c2, .slice a3 B.k c3] ∧ Cl _ (w.heap.size + 1 + 1) V.cl ∧ Cl _ (w.heap.size + 1 + 1 + 1) [.slice R.a R.n R.c, .slice R.b R.m R.d] from ⟨F_t.o, F_v.o, F_r.o⟩)
  have HU7 := Lh hU5
  have HS7 := Lh hS5
  have HH7 := Lh (show highB T.a T.n (HX + 1) ∧ highB T.b T.m (HX + 1) from ⟨hh1.mono (by (try simp only [World.size_drew]); omega), hh2.mono (by (try simp only [World.size_drew]); omega)⟩)
  have hz5 := hb5.size
  have hls7 : HX < w7.heap.size := by (try simp only [World.size_drew] at hz5); omega
  unfold Rv.v
  clear hb5 hU5 hS5 hz5 hh1 hh2
  refine hK.o _ _ (fun _ => hS) ?_
  clear hK K
  try simp only [Act.put, sZ]
  refine onl (i := 10) (some 66) (.buildSlice 51 1 #[(0, .tmp 65)]) 51 (fun K hK => ?_)
  unfold bareOp
  go_wp2_with fail
  replace F_t := Lh (F_t.o.alloc (.cells #[.slice T.a T.n T.c, .slice T.b T.m T.d] 57))
  replace F_v := Lh (F_v.o.alloc (.cells #[.slice T.a T.n T.c, .slice T.b T.m T.d] 57))
  replace F_r := Lh (F_r.o.alloc (.cells #[.slice T.a T.n T.c, .slice T.b T.m T.d] 57))
  replace F_o := Lh (F_o.o.alloc (.cells #[.slice T.a T.n T.c, .slice T.b T.m T.d] 57))
  replace HR1 := Lh (HR1.o.alloc (.cells #[.slice T.a T.n T.c, .slice T.b T.m T.d] 57))
  replace HR2 := Lh (HR2.o.alloc (.cells #[.slice T.a T.n T.c, .slice T.b T.m T.d] 57))
  replace HR3 := Lh (HR3.o.alloc (.cells #[.slice T.a T.n T.c, .slice T.b T.m T.d] 57))
  replace HBW := Lh (HBW.o.alloc HBW.o.size (.cells #[.slice T.a T.n T.c, .slice T.b T.m T.d] 57))
  replace hS := (show Cl _ HX [.slice a1 B.n c1, .slice a2 B.m c2, .slice a3 B.k c3] ∧ Cl _ (w.heap.size + 1 + 1) V.cl ∧ Cl _ (w.heap.size + 1 + 1 + 1) [.slice R.a R.n R.c, .slice R.b R.m R.d] from ⟨F_t.o, F_v.o, F_r.o⟩)
  replace HU7 := Lh (HU7.o.keep ((Below.refl _ _).alloc (Nat.le_refl _) (.cells #[.slice T.a T.n T.c, .slice T.b T.m T.d] 57)))
  refine hK.o _ _ (fun _ => hS) ?_
  clear hK K
  try simp only [Act.put, sZ]
  refine onl (i := 11) (some 67) (.call { callee := .builtin .append, args := #[.tmp 63, .tmp 66], argTypes := #[51, 51] }) 51 (fun K hK => ?_)
  unfold bareOp
  refine wp_pushR (.tmp 63) (.tmp 66) rfl (fun b => (N2 ≤ b ∧ b < N3) ∨ HX < b) B.k w7.heap.size (.slice a3 B.k c3) B.rs T R rfl rfl HR3.o (cell_list_at _ _ _ _ rfl) (by omega) (.inr (by simp <;> omega)) HU7.o ⟨HH7.o.1.off HOF3.o, HH7.o.2.off HOF3.o⟩ ⟨HH7.o.1.inB _ (fun b hb => .inr (by omega)), HH7.o.2.inB _ (fun b hb => .inr (by omega))⟩ HS7.o.key ?_
  intro a8 c8 w8 hR9 hg9
  replace HR3 := Lh hR9
  replace HR1 := Lh (HR1.o.grown hg9 (fun g hg => by have := (HOG3.o g hg); simp only [not_and, not_or, Nat.not_lt]; omega))
  replace HR2 := Lh (HR2.o.grown hg9 (fun g hg => by have := (HOG3.o g hg); simp only [not_and, not_or, Nat.not_lt]; omega))
  have HB9 := Lh (Below.rowT (n := n0) hg9 (fun g hg => by have := (HOG3.o g hg).1; omega) (by simp <;> omega))
  replace F_v := Lh (F_v.o.keepN HB9.o (by omega))
  replace F_r := Lh (F_r.o.keepN HB9.o (by omega))
  replace F_o := Lh (F_o.o.keepN HB9.o (by omega))
  replace F_t := Lh (F_t.o.grownX hg9 (fun g hg => by have := (HOG3.o g hg).2; omega))
  replace HBW := Lh (HBW.o.trans (HB9.o.mono (by omega)))
  have hz9 := hg9.size
  have hlsw8 : HX < w8.heap.size := by simp at hz9; omega
  clear HB9 hR9 hg9 hz9
  refine hK.o _ _ lt8 ?_
  clear hK K
  try simp only [Act.put, sZ]
  have q1 := F_t.o.c 1 _ rfl
  have qf1 := F_t.o.f 1
  refine onl (i := 13) none (.store 50 (.tmp 68) (.tmp 61)) 0 (fun K hK => ?_)
  unfold bareOp
  go_wp2_with fail
  replace F_t := Lh (F_t.o.set (m := [.slice a1 B.n c1, .slice a9 (B.m + 1) c9, .slice a3 B.k c3]) 1 (.slice a9 (B.m + 1) c9) (by simp) rfl)
  replace F_o := Lh (F_o.o.far ⟨HX, 1, none⟩ (.slice a9 (B.m + 1) c9) (by simp <;> omega))
  replace HR1 := Lh (HR1.o.set ⟨HX, 1, none⟩ (.slice a9 (B.m + 1) c9) (by simp <;> omega))
  replace HR2 := Lh (HR2.o.set ⟨HX, 1, none⟩ (.slice a9 (B.m + 1) c9) (by simp <;> omega))
  replace HR3 := Lh (HR3.o.set ⟨HX, 1, none⟩ (.slice a9 (B.m + 1) c9) (by simp <;> omega))
  replace HBW := Lh (HBW.o.setCell (p := ⟨HX, 1, none⟩) (by simp <;> omega) (.slice a9 (B.m + 1) c9))
  refine hK.o _ _ lt8 ?_
  clear hK K
  try simp only [Act.put, sZ]
  refine tkP (i := 14) (some 69) (.fieldAddr 53 (.tmp 20) 2) 0 (v := ?_) lt8 (fun w => ?_) ?_
  rotate_left; · unfold bareOp; go_simp; try with_reducible rfl
  simp only [Act.put, sZ]
  have q2 := F_t.o.c 2 _ rfl
  have qf2 := F_t.o.f 2
  refine onl (i := 15) none (.store 51 (.tmp 69) (.tmp 67)) 0 (fun K hK => ?_)
  unfold bareOp
  go_wp2_with fail
  replace F_t := Lh (F_t.o.set (m := [.slice a1 B.n c1, .slice a9 (B.m + 1) c9, .slice a8 (B.k + 1) c8]) 2 (.slice a8 (B.k + 1) c8) (by simp) rfl)
  replace F_o := Lh (F_o.o.far ⟨HX, 2, none⟩ (.slice a8 (B.k + 1) c8) (by simp <;> omega))
  replace HR1 := Lh (HR1.o.set ⟨HX, 2, none⟩ (.slice a8 (B.k + 1) c8) (by simp <;> omega))
  replace HR2 := Lh (HR2.o.set ⟨HX, 2, none⟩ (.slice a8 (B.k + 1) c8) (by simp <;> omega))
  replace HR3 := Lh (HR3.o.set ⟨HX, 2, none⟩ (.slice a8 (B.k + 1) c8) (by simp <;> omega))
  replace HBW := Lh (HBW.o.setCell (p := ⟨HX, 2, none⟩) (by simp <;> omega) (.slice a8 (B.k + 1) c8))
  refine hK.o _ _ lt8 ?_
  clear hK K
  try simp only [Act.put, sZ]
  refine wpAnyB_done (by kernel_rfl) ?_ _
  go_wp2_with (first
    | (refine wpL_loadCl rfl 53 (.tmp 20) HX _ rfl rfl _ Tryd.underlying53 rfl (by kernel_rfl) F_t.o ?_)
    | (refine wpL_storeCl rfl 53 (.tmp 14) (.tmp 70) (w.heap.size + 1 + 1 + 1 + 1) 0 _ [.slice a1 B.n c1, .slice a9 (B.m + 1) c9, .slice a8 (B.k + 1) c8] [.slice a1 B.n c1, .slice a9 (B.m + 1) c9, .slice a8 (B.k + 1) c8] rfl rfl rfl rfl (by kernel_rfl) (by intro u hu; simp at hu; rcases hu with rfl | rfl | rfl <;> rfl) F_o.o (by simp) rfl ?_
       intro w8 hc8 hg8 hz8
       have F_q := Lh hc8
       have HG8 := Lh hg8
       clear hc8 hg8 hz8))
  refine bodyPost_ret (res_booth2 rfl F_q.o _ rfl rfl) rfl ?_
  refine ⟨HBW.o.trans (HG8.o.blw (n := w.heap.size) (by omega) HBW.o.size), _, _, HA.o, .inr ⟨rfl, .inr ⟨HYES.o, .inr ⟨HK.o, ?_⟩⟩⟩⟩
  have hng : ∀ g, some (w.heap.size + 1 + 1 + 1 + 1) = some g → g < n0 := fun g hg => by cases hg; exact hlt0
  exact BackB.of (lo := w.heap.size) (fun r hr => by have hq := hng _ rfl; refine ⟨?_, ?_, ?_⟩ <;> simp only [not_and, not_or, Nat.not_lt] <;> omega) (HR1.o.grown HG8.o.grown (fun g hg => by have := hng g hg; omega)) (HR2.o.grown HG8.o.grown (fun g hg => by have := hng g hg; omega)) (HR3.o.grown HG8.o.grown (fun g hg => by have := hng g hg; omega))
open Go Go.RowKit Num Sha
theorem bytes_key {U V : Vt} (h : U.key = V.key) : U.bytes = V.bytes := by
 obtain ⟨h1, h2, h3, h4, h5, h6⟩ := Vt.same_of_key h
 unfold Vt.bytes Vt.nums Vt.pts
 rw [h1, h2, h3, h4, h5, h6]
theorem cd_key {U V : Vt} (h : U.key = V.key) : U.cd = V.cd := by
 obtain ⟨h1, h2, h3, h4, h5, h6⟩ := Vt.same_of_key h
 unfold Vt.cd codeF
 rw [bytes_key h, h1, h3]
theorem valid_key {P Q G y : Int} {n : Nat} {U V : Vt} (h : U.key = V.key) : validP P Q G y n U ↔ validP P Q G y n V := by
 obtain ⟨h1, h2, h3, h4, h5, h6⟩ := Vt.same_of_key h
 unfold validP
 rw [h1, h2, h3, h4, h5, h6]
theorem good_key {P Q G y : Int} {n : Nat} {one : Bool} {U V : Vt} (h : U.key = V.key) : goodV P Q G y n one U ↔ goodV P Q G y n one V := by
 unfold goodV
 rw [valid_key h, (Vt.same_of_key h).2.2.2.2.1]
theorem range_key {Q : Int} {n : Nat} {R T : Rv} (h : R.key = T.key) : rangeP Q n R ↔ rangeP Q n T := by
 obtain ⟨h1, h2, h3, h4⟩ := Rv.same_of_key h
 unfold rangeP
 rw [h2, h3, h4]
theorem match_key {P G y : Int} {n : Nat} {U V : Vt} {R T : Rv} (h : U.key = V.key) (k : R.key = T.key) : matchP P G y n U R ↔ matchP P G y n V T := by
 obtain ⟨h1, h2, h3, h4, h5, h6⟩ := Vt.same_of_key h
 obtain ⟨k1, k2, k3, k4⟩ := Rv.same_of_key k
 unfold matchP
 rw [h1, h2, k2, k4]
theorem cds_keys {L M : List Vt} (h : L.map Vt.key = M.map Vt.key) : cds L = cds M := by
 induction L generalizing M with
 | nil => cases M with
   | nil => rfl
   | cons _ _ => cases h
 | cons U L ih => cases M with
   | nil => cases h
   | cons V M =>
    simp only [List.map_cons, List.cons.injEq] at h
    unfold cds at ih ⊢
    rw [List.map_cons, List.map_cons, cd_key h.1, ih h.2]
theorem keys_get {α β : Type} (f : α → β) {L M : List α} (h : L.map f = M.map f) {i : Nat} {x : α} (hx : L[i]? = some x) : ∃ z, M[i]? = some z ∧ f x = f z := by
 have := congrArg (fun l => l[i]?) h
 simp only [List.getElem?_map, hx, Option.map_some] at this
 cases hm : M[i]? with
 | none => rw [hm] at this; cases this
 | some z => rw [hm] at this; simp at this; exact ⟨z, rfl, this⟩
theorem keys_mem {α β : Type} (f : α → β) {L M : List α} (h : L.map f = M.map f) {x : α} (hx : x ∈ L) : ∃ z, z ∈ M ∧ f x = f z := by
 obtain ⟨i, hi⟩ := List.mem_iff_getElem?.1 hx
 obtain ⟨z, hz, e⟩ := keys_get f h hi
 exact ⟨z, List.mem_of_getElem? hz, e⟩
theorem keys_append {α β : Type} (f : α → β) {L M L' M' : List α} (h : L.map f = M.map f) (h' : L'.map f = M'.map f) : (L ++ L').map f = (M ++ M').map f := by
 rw [List.map_append, List.map_append, h, h']
theorem booth_cast {P Q G y : Int} {n : Nat} {one : Bool} {B B' : Bo} {V : Vt} (h : boothP P Q G y n one B) (hV : goodV P Q G y n one V) (hc : V.cd ∉ cds (B.l ++ B.l')) (hf : ((B.n + B.m : Nat) : Int) ≠ 256)
    (h1 : B'.n = B.n + 1) (h2 : B'.m = B.m) (h3 : B'.k = B.k) (hS : SameB B' (B.l ++ [V]) B.l' B.rs) : boothP P Q G y n one B' := by
  refine ⟨by rw [h3, h2]; exact h.lr, by rw [h1, h2]; have := h.few; omega, fun U hU => ?_, ?_, fun i R U hR hU => ?_⟩
  · obtain ⟨Z, hZ, e⟩ := keys_mem Vt.key (keys_append Vt.key hS.k1 hS.k2) hU
    refine (good_key e).2 ?_
    rcases List.mem_append.1 hZ with hZ | hZ
    · rcases List.mem_append.1 hZ with hZ | hZ
      · exact h.good Z (List.mem_append.2 (.inl hZ))
      · rw [List.mem_singleton] at hZ; rw [hZ]; exact hV
    · exact h.good Z (List.mem_append.2 (.inr hZ))
  · rw [cds_keys (keys_append Vt.key hS.k1 hS.k2)]
    have hd := h.dist
    unfold cds at hd hc ⊢
    simp only [List.map_append, List.map_cons, List.map_nil, List.append_assoc] at hd hc ⊢
    refine (List.perm_middle.nodup_iff).2 ?_
    exact List.nodup_cons.2 ⟨hc, hd⟩
  · obtain ⟨T, hT, e⟩ := keys_get Rv.key hS.k3 hR
    obtain ⟨Z, hZ, e'⟩ := keys_get Vt.key hS.k2 hU
    have := h.mat i T Z hT hZ
    exact ⟨(range_key e).2 this.1, (match_key e' e).2 this.2⟩
theorem seen_cast {B B' : Bo} {V : Vt} (hS : SameB B' (B.l ++ [V]) B.l' B.rs) : V.cd ∈ cds (B'.l ++ B'.l') := by
 rw [cds_keys (keys_append Vt.key hS.k1 hS.k2)]
 exact List.mem_map.2 ⟨V, by simp, rfl⟩
theorem AdmS.seen {P Q G y n : Int} {one : Bool} {B : Bo} {V : Vt} {k e' : Int} (h : AdmS P Q G y n one B V k e') (hc : chkB P Q G y n = 0) (hb : boothP P Q G y n.toNat one B) (hg : goodV P Q G y n.toNat one V) (hs : V.cd ∈ cds (B.l ++ B.l')) : e' = 361 := by
 rcases h with ⟨h1, -, -⟩ | ⟨h1, ⟨h2, -, -⟩ | ⟨h2, ⟨h3, -, -⟩ | ⟨h3, ⟨-, -, h4⟩ | ⟨h4, -, -⟩⟩⟩⟩
 · exact absurd hc h1
 · exact absurd hb h2
 · exact absurd hg h3
 · exact h4
 · exact absurd hs h4
theorem AdmS.bad {P Q G y n : Int} {one : Bool} {B : Bo} {V : Vt} {k e' : Int} (h : AdmS P Q G y n one B V k e') (hc : chkB P Q G y n = 0) (hb : ¬ boothP P Q G y n.toNat one B) : e' = 8 := by
 rcases h with ⟨h1, -, -⟩ | ⟨h1, ⟨h2, -, h3⟩ | ⟨h2, -⟩⟩
 · exact absurd hc h1
 · exact h3
 · exact absurd h2 hb
theorem AdmS.vote {P Q G y n : Int} {one : Bool} {B : Bo} {V : Vt} {k e' : Int} (h : AdmS P Q G y n one B V k e') (hc : chkB P Q G y n = 0) (hb : boothP P Q G y n.toNat one B) (hg : ¬ goodV P Q G y n.toNat one V) : e' = 360 := by
 rcases h with ⟨h1, -, -⟩ | ⟨h1, ⟨h2, -, -⟩ | ⟨h2, ⟨h3, -, h4⟩ | ⟨h3, -⟩⟩⟩
 · exact absurd hc h1
 · exact absurd hb h2
 · exact h4
 · exact absurd h3 hg
theorem AdmS.ok {P Q G y n : Int} {one : Bool} {B : Bo} {V : Vt} {k e' : Int} (h : AdmS P Q G y n one B V k e') (hc : chkB P Q G y n = 0) (hb : boothP P Q G y n.toNat one B) (hg : goodV P Q G y n.toNat one V) (hs : V.cd ∉ cds (B.l ++ B.l')) : e' = 0 ∧ k = ((B.n + B.m : Nat) : Int) := by
 rcases h with ⟨h1, -, -⟩ | ⟨h1, ⟨h2, -, -⟩ | ⟨h2, ⟨h3, -, -⟩ | ⟨h3, ⟨h4, -, -⟩ | ⟨h4, h5, h6⟩⟩⟩⟩
 · exact absurd hc h1
 · exact absurd hb h2
 · exact absurd hg h3
 · exact absurd h4 hs
 · exact ⟨h6, h5⟩
theorem BvS.ok {P Q G y n : Int} {one : Bool} {B : Bo} {e' : Int} (h : BvS P Q G y n one B e') (hc : chkB P Q G y n = 0) (hb : boothP P Q G y n.toNat one B) : e' = 0 := by
 rcases h with ⟨h1, -⟩ | ⟨-, ⟨h2, -⟩ | ⟨-, h3⟩⟩
 · exact absurd hc h1
 · exact absurd hb h2
 · exact h3
open Go Go.RowKit Num Sha
def sealE (P Q G y n : Int) (ms : List Int) (one : Bool) : Int := if chkB P Q G y n ≠ 0 then chkB P Q G y n else if markedS n ms = true ∧ (one = true → ms.length ≤ 1) then 0 else 2
def manyS (n : Int) (one : Bool) : Nat := 4 * n.toNat + if one then 3 else 0
def SealR (w : World) (P Q G y n : Int) (ms : List Int) (one : Bool) (seed : List Int) (e : Ending) (w' : World) : Prop := Below w.heap.size w w' ∧
  ((sealE P Q G y n ms one ≠ 0 ∧ e = .returned (.tuple #[.agg #[.slice none 0 0, .slice none 0 0, .bool false, .int .u64 0, .int .u64 0, .int .u64 0, .int .u64 0, .int .u64 0, .int .u64 0, .int .u64 0, .int .u64 0], .agg #[.slice none 0 0, .slice none 0 0], .int .i64 (sealE P Q G y n ms one)])) ∨ (sealE P Q G y n ms one = 0 ∧
    ((sampS seed Q (manyS n one) = none ∧ e = .returned (.tuple #[.agg #[.slice none 0 0, .slice none 0 0, .bool false, .int .u64 0, .int .u64 0, .int .u64 0, .int .u64 0, .int .u64 0, .int .u64 0, .int .u64 0, .int .u64 0], .agg #[.slice none 0 0, .slice none 0 0], .int .i64 6])) ∨
      ∃ d V R, sampS seed Q (manyS n one) = some d ∧ e = .returned (.tuple #[V.v, R.v, .int .i64 0]) ∧ SealV P Q G y n.toNat ms one d V R ∧ VtIn w' V ∧ RvIn w' R)))
theorem markedFrom_len {n : Int} : ∀ (l : List Int) (last : Int), last < n → markedFrom n last l = true → (l.length : Int) ≤ n - 1 - last
  | [], last, h, _ => by simp; omega
  | i :: l, last, h, hm => by
   unfold markedFrom at hm
   split at hm
   · cases hm
   · have := markedFrom_len l i (by omega) hm
     rw [List.length_cons]; omega
theorem markedS_len {n : Int} {l : List Int} (h0 : 0 ≤ n) (h : markedS n l = true) : (l.length : Int) ≤ n := by
 have := markedFrom_len l (-1) (by omega) h; omega
theorem res_seal {w : World} {fn : Func} {c d t : Tmp} {b b' : Nat} {a0 a1 a2 a3 : Option Addr} {n0 n1 c0 c1 n2 n3 c2 c3 : Nat} {o2 : Bool} {i3 i4 i5 i6 i7 i8 i9 i10 : Int} {v : Value} (h : fn.results = #[.cell c 29, .cell d 57, .tmp t])
    (hp : Cl w b [.slice a0 n0 c0, .slice a1 n1 c1, .bool o2, .int .u64 i3, .int .u64 i4, .int .u64 i5, .int .u64 i6, .int .u64 i7, .int .u64 i8, .int .u64 i9, .int .u64 i10]) (hq : Cl w b' [.slice a2 n2 c2, .slice a3 n3 c3]) (tmps : Array Value)
    (hc : tmps[c]?.getD undef = .pointer (some ⟨b, 0, none⟩)) (hd : tmps[d]?.getD undef = .pointer (some ⟨b', 0, none⟩)) (ht : tmps[t]?.getD undef = v) : (results fn tmps).run Tryd.prog w = .ok (.tuple #[.agg #[.slice a0 n0 c0, .slice a1 n1 c1, .bool o2, .int .u64 i3, .int .u64 i4, .int .u64 i5, .int .u64 i6, .int .u64 i7, .int .u64 i8, .int .u64 i9, .int .u64 i10], .agg #[.slice a2 n2 c2, .slice a3 n3 c3], v]) w := by
  obtain ⟨⟨q0, q1, q2, q3, q4, q5, q6, q7, q8, q9, q10⟩, -⟩ := hp.k11
  have r0 := hq.c 0 _ rfl
  have r1 := hq.c 1 _ rfl
  simp [results, h, hc, hd, ht, go_sem, q0, q1, q2, q3, q4, q5, q6, q7, q8, q9, q10, r0, r1]
set_option maxHeartbeats 8000000 in
theorem seal_bad {P Q G y n : Int} {a : Option Addr} {m c : Nat} {ms seed : List Int} {one : Bool} (w : World) (hT : Tabs w) (hP : 0 ≤ P) (hQ : 0 ≤ Q) (hG : 0 ≤ G) (hy : 0 ≤ y) (hS : ShI .i64 w a m ms) (hkc : a = none → c = 0) (hu : ∀ x, x ∈ ms → -9223372036854775808 ≤ x ∧ x ≤ 9223372036854775807) (hm : m ≤ 9223372036854775807) (hsl : seed.length = 32) (hby : ByteL seed) (hE : sealE P Q G y n ms one ≠ 0) :
    Calls Tryd.prog 24 #[.agg #[.int .u64 P, .int .u64 Q, .int .u64 G], .int .u64 y, .int .i64 n, .slice a m c, .bool one, .agg (valV .u8 seed)] w (SealR w P Q G y n ms one seed) := by
  have HE := Lh hE
  clear hE
  have HT := Lh hT
  have HS := Lh hS
  have HU := Lh hu
  have HLM := Lh hS.len
  have HSL := Lh hsl
  have HBY := Lh hby
  have F_g := Lh (show Cl ((((w.alloc (.cells #[.int .u64 P, .int .u64 Q, .int .u64 G] 49)).alloc (.cells (valV .u8 seed) 37)).alloc (.cells #[.slice none 0 0, .slice none 0 0, .bool false, .int .u64 0, .int .u64 0, .int .u64 0, .int .u64 0, .int .u64 0, .int .u64 0, .int .u64 0, .int .u64 0] 29)).alloc (.cells #[.slice none 0 0, .slice none 0 0] 57)) w.heap.size [.int .u64 P, .int .u64 Q, .int .u64 G] from (((Cl.at w [.int .u64 P, .int .u64 Q, .int .u64 G] _ w.heap.size rfl).alloc _).alloc _).alloc _)
  have F_s := Lh (show Arr .u8 ((((w.alloc (.cells #[.int .u64 P, .int .u64 Q, .int .u64 G] 49)).alloc (.cells (valV .u8 seed) 37)).alloc (.cells #[.slice none 0 0, .slice none 0 0, .bool false, .int .u64 0, .int .u64 0, .int .u64 0, .int .u64 0, .int .u64 0, .int .u64 0, .int .u64 0, .int .u64 0] 29)).alloc (.cells #[.slice none 0 0, .slice none 0 0] 57)) (w.heap.size + 1) seed from (((Arr.new .u8 (w.alloc (.cells #[.int .u64 P, .int .u64 Q, .int .u64 G] 49)) seed 37 (w.heap.size + 1) (by simp)).keep ((Below.refl _ _).alloc (Nat.le_refl _) _)).keep ((Below.refl _ _).alloc (Nat.le_refl _) _)))
  have F_o := Lh (show Cl ((((w.alloc (.cells #[.int .u64 P, .int .u64 Q, .int .u64 G] 49)).alloc (.cells (valV .u8 seed) 37)).alloc (.cells #[.slice none 0 0, .slice none 0 0, .bool false, .int .u64 0, .int .u64 0, .int .u64 0, .int .u64 0, .int .u64 0, .int .u64 0, .int .u64 0, .int .u64 0] 29)).alloc (.cells #[.slice none 0 0, .slice none 0 0] 57)) (w.heap.size + 1 + 1) [.slice none 0 0, .slice none 0 0, .bool false, .int .u64 0, .int .u64 0, .int .u64 0, .int .u64 0, .int .u64 0, .int .u64 0, .int .u64 0, .int .u64 0] from (Cl.at ((w.alloc (.cells #[.int .u64 P, .int .u64 Q, .int .u64 G] 49)).alloc (.cells (valV .u8 seed) 37)) [.slice none 0 0, .slice none 0 0, .bool false, .int .u64 0, .int .u64 0, .int .u64 0, .int .u64 0, .int .u64 0, .int .u64 0, .int .u64 0, .int .u64 0] _ (w.heap.size + 1 + 1) (by simp)).alloc _)
  have F_q := Lh (show Cl ((((w.alloc (.cells #[.int .u64 P, .int .u64 Q, .int .u64 G] 49)).alloc (.cells (valV .u8 seed) 37)).alloc (.cells #[.slice none 0 0, .slice none 0 0, .bool false, .int .u64 0, .int .u64 0, .int .u64 0, .int .u64 0, .int .u64 0, .int .u64 0, .int .u64 0, .int .u64 0] 29)).alloc (.cells #[.slice none 0 0, .slice none 0 0] 57)) (w.heap.size + 1 + 1 + 1) [.slice none 0 0, .slice none 0 0] from Cl.at (((w.alloc (.cells #[.int .u64 P, .int .u64 Q, .int .u64 G] 49)).alloc (.cells (valV .u8 seed) 37)).alloc (.cells #[.slice none 0 0, .slice none 0 0, .bool false, .int .u64 0, .int .u64 0, .int .u64 0, .int .u64 0, .int .u64 0, .int .u64 0, .int .u64 0, .int .u64 0] 29)) [.slice none 0 0, .slice none 0 0] _ (w.heap.size + 1 + 1 + 1) (by simp))
  have HBW := Lh (show Below w.heap.size w ((((w.alloc (.cells #[.int .u64 P, .int .u64 Q, .int .u64 G] 49)).alloc (.cells (valV .u8 seed) 37)).alloc (.cells #[.slice none 0 0, .slice none 0 0, .bool false, .int .u64 0, .int .u64 0, .int .u64 0, .int .u64 0, .int .u64 0, .int .u64 0, .int .u64 0, .int .u64 0] 29)).alloc (.cells #[.slice none 0 0, .slice none 0 0] 57)) from ((((Below.refl _ _).alloc (Nat.le_refl _) _).alloc (by simp) _).alloc (by simp <;> omega) _).alloc (by simp <;> omega) _)
  have g0 := F_g.o.c 0 _ rfl
  have g1 := F_g.o.c 1 _ rfl
  have g2 := F_g.o.c 2 _ rfl
  clear hT hS hu hsl hby
  go_enter Tryd.func24, Tryd.ntmps24
  go_wp2_with fail
  clear g0 g1 g2
  refine (bcheck_any _ hP hQ hG hy).mono ?_
  rintro e w1 ⟨rfl, hb1⟩
  replace F_g := Lh (F_g.o.keep hb1)
  replace F_s := Lh (F_s.o.keep hb1)
  replace F_o := Lh (F_o.o.keep hb1)
  replace F_q := Lh (F_q.o.keep hb1)
  replace HBW := Lh (HBW.o.trans (hb1.mono HBW.o.size))
  clear hb1
  by_cases hk : chkB P Q G y n = 0
  case neg =>
   have HK := Lh (show sealE P Q G y n ms one = chkB P Q G y n by rw [sealE, if_pos hk])
   go_wp2_with (first
     | (refine wpL_storeCl rfl 29 (.tmp 12) (.tmp 36) (w.heap.size + 1 + 1) 0 _ [.slice none 0 0, .slice none 0 0, .bool false, .int .u64 0, .int .u64 0, .int .u64 0, .int .u64 0, .int .u64 0, .int .u64 0, .int .u64 0, .int .u64 0] [.slice none 0 0, .slice none 0 0, .bool false, .int .u64 0, .int .u64 0, .int .u64 0, .int .u64 0, .int .u64 0, .int .u64 0, .int .u64 0, .int .u64 0] rfl rfl rfl rfl (by kernel_rfl) (by intro u hu; simp at hu; rcases hu with rfl | rfl | rfl | rfl | rfl | rfl | rfl | rfl | rfl | rfl | rfl <;> rfl) F_o.o (by simp) rfl ?_
        intro wx hc8 hg8 hz8
        have F_x := Lh hc8
        have HGx := Lh hg8
        have hz_wx := hz8
        clear hc8 hg8 hz8)
     | (refine wpL_storeCl rfl 57 (.tmp 13) (.tmp 37) (w.heap.size + 1 + 1 + 1) 0 _ [.slice none 0 0, .slice none 0 0] [.slice none 0 0, .slice none 0 0] rfl rfl rfl rfl (by kernel_rfl) (by intro u hu; simp at hu; rcases hu with rfl | rfl <;> rfl) (F_q.o.gro HGx.o (by omega)) (by simp) rfl ?_
        intro wz hc8 hg8 hz8
        have F_z := Lh hc8
        have HGz := Lh hg8
        have hz_wz := hz8
        clear hc8 hg8 hz8))
   refine bodyPost_ret (res_seal rfl (F_x.o.gro HGz.o (by omega)) F_z.o _ rfl rfl rfl) rfl ?_
   exact ⟨(HBW.o.trans (HGx.o.blw (n := w.heap.size) (by omega) HBW.o.size)).trans (HGz.o.blw (n := w.heap.size) (by omega) (by have := HBW.o.size; omega)), .inl ⟨HE.o, by rw [HK.o]; rfl⟩⟩
  case pos =>
   have HK := Lh hk
   rw [hk]
   clear hk
   go_wp2_with fail
   refine (marked_any _ (HS.o.keep HBW.o) (by omega)).mono ?_
   rintro e w3 ⟨rfl, rfl⟩
   obtain ⟨mk, hmk⟩ : ∃ mk, markedS n ms = mk := ⟨_, rfl⟩
   have HMK := Lh hmk
   rw [hmk]
   clear hmk
   cases mk with
   | false =>
    have HR := Lh (show sealE P Q G y n ms one = 2 by rw [sealE, if_neg (by rw [HK.o]; simp), if_neg (by rw [HMK.o]; simp)])
    go_wp2_with (first
      | (refine wpL_storeCl rfl 29 (.tmp 12) (.tmp 51) (w.heap.size + 1 + 1) 0 _ [.slice none 0 0, .slice none 0 0, .bool false, .int .u64 0, .int .u64 0, .int .u64 0, .int .u64 0, .int .u64 0, .int .u64 0, .int .u64 0, .int .u64 0] [.slice none 0 0, .slice none 0 0, .bool false, .int .u64 0, .int .u64 0, .int .u64 0, .int .u64 0, .int .u64 0, .int .u64 0, .int .u64 0, .int .u64 0] rfl rfl rfl rfl (by kernel_rfl) (by intro u hu; simp at hu; rcases hu with rfl | rfl | rfl | rfl | rfl | rfl | rfl | rfl | rfl | rfl | rfl <;> rfl) F_o.o (by simp) rfl ?_
         intro wx hc8 hg8 hz8
         have F_x := Lh hc8
         have HGx := Lh hg8
         have hz_wx := hz8
         clear hc8 hg8 hz8)
      | (refine wpL_storeCl rfl 57 (.tmp 13) (.tmp 52) (w.heap.size + 1 + 1 + 1) 0 _ [.slice none 0 0, .slice none 0 0] [.slice none 0 0, .slice none 0 0] rfl rfl rfl rfl (by kernel_rfl) (by intro u hu; simp at hu; rcases hu with rfl | rfl <;> rfl) (F_q.o.gro HGx.o (by omega)) (by simp) rfl ?_
         intro wz hc8 hg8 hz8
         have F_z := Lh hc8
         have HGz := Lh hg8
         have hz_wz := hz8
         clear hc8 hg8 hz8))
    refine bodyPost_ret (res_seal rfl (F_x.o.gro HGz.o (by omega)) F_z.o _ rfl rfl rfl) rfl ?_
    exact ⟨(HBW.o.trans (HGx.o.blw (n := w.heap.size) (by omega) HBW.o.size)).trans (HGz.o.blw (n := w.heap.size) (by omega) (by have := HBW.o.size; omega)), .inl ⟨HE.o, by rw [HR.o]; rfl⟩⟩
   | true =>
    cases one with
    | false => exact absurd (by rw [sealE, if_neg (by rw [HK.o]; simp), if_pos ⟨HMK.o, by simp⟩]) HE.o
    | true =>
     by_cases hl : m ≤ 1
     · exact absurd (by rw [sealE, if_neg (by rw [HK.o]; simp), if_pos ⟨HMK.o, fun _ => by rw [← HLM.o]; exact hl⟩]) HE.o
     · have d1 : decide ((1 : Int) < (m : Int)) = true := decide_eq_true (by omega)
       have d2 : decide ((m : Int) > 1) = true := decide_eq_true (by omega)
       have HR := Lh (show sealE P Q G y n ms true = 2 by rw [sealE, if_neg (by rw [HK.o]; simp), if_neg (by rintro ⟨-, h⟩; have := h rfl; rw [← HLM.o] at this; exact hl this)])
       clear hl
       go_wp2_with (first
         | (refine wpL_storeCl rfl 29 (.tmp 12) (.tmp 51) (w.heap.size + 1 + 1) 0 _ [.slice none 0 0, .slice none 0 0, .bool false, .int .u64 0, .int .u64 0, .int .u64 0, .int .u64 0, .int .u64 0, .int .u64 0, .int .u64 0, .int .u64 0] [.slice none 0 0, .slice none 0 0, .bool false, .int .u64 0, .int .u64 0, .int .u64 0, .int .u64 0, .int .u64 0, .int .u64 0, .int .u64 0, .int .u64 0] rfl rfl rfl rfl (by kernel_rfl) (by intro u hu; simp at hu; rcases hu with rfl | rfl | rfl | rfl | rfl | rfl | rfl | rfl | rfl | rfl | rfl <;> rfl) F_o.o (by simp) rfl ?_
            intro wx hc8 hg8 hz8
            have F_x := Lh hc8
            have HGx := Lh hg8
            have hz_wx := hz8
            clear hc8 hg8 hz8)
         | (refine wpL_storeCl rfl 57 (.tmp 13) (.tmp 52) (w.heap.size + 1 + 1 + 1) 0 _ [.slice none 0 0, .slice none 0 0] [.slice none 0 0, .slice none 0 0] rfl rfl rfl rfl (by kernel_rfl) (by intro u hu; simp at hu; rcases hu with rfl | rfl <;> rfl) (F_q.o.gro HGx.o (by omega)) (by simp) rfl ?_
            intro wz hc8 hg8 hz8
            have F_z := Lh hc8
            have HGz := Lh hg8
            have hz_wz := hz8
            clear hc8 hg8 hz8))
       refine bodyPost_ret (res_seal rfl (F_x.o.gro HGz.o (by omega)) F_z.o _ rfl rfl rfl) rfl ?_
       exact ⟨(HBW.o.trans (HGx.o.blw (n := w.heap.size) (by omega) HBW.o.size)).trans (HGz.o.blw (n := w.heap.size) (by omega) (by have := HBW.o.size; omega)), .inl ⟨HE.o, by rw [HR.o]; rfl⟩⟩
end Go.Proofs.YtlbldpkgnonbpaaDoor
