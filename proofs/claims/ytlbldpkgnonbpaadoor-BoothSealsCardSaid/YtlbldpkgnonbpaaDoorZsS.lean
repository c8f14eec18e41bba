/- Challenge, of the empty booth. -/
import Derived.Test.YtlbldpkgnonbpaaDoorZsR
import Derived.Test.YtlbldpkgnonbpaaDoorZsC
namespace Go.Proofs.YtlbldpkgnonbpaaDoor
open Go Go.RowKit Num Sha
set_option linter.unusedSimpArgs false
set_option linter.unusedVariables false

theorem wp_push_r {w : World} {o : Oper} {a : Act} {K : Act → World → Prop} {Q : Exit → Act → World → Prop} (s x : Operand) (ho : o.op = .call { callee := .builtin .append, args := #[s, x], argTypes := #[51, 51] })
    (base n b : Nat) (v : Value) (xs : List Value) (us : List Value) (hs : a.eval s = v) (hx : a.eval x = .slice (some ⟨b, 0, none⟩) 1 1) (hown : w.ownsRow base 57 2 v n xs) (hu : us.length = 2) (h1 : ∀ u, u ∈ us → u.oneCell' = true) (hc : ∀ j u, us[j]? = some u → w.cell? ((⟨b, 0, none⟩ : Addr).add j) = some u) (hn : n ≤ 100000) (hb : base ≤ w.heap.size)
    (h : ∀ v' w', w'.ownsRow base 57 2 v' (n + 1) (xs ++ us) → w.grownBy w' v.ownBlock → K (a.put o.dst v') w') : o.wp Tryd.prog a w K Q := by
  obtain ⟨j0, ji, jz0, jz1, jz2⟩ := info_parts (P := Tryd.prog) (e := 57) (z := .agg #[.slice none 0 0, .slice none 0 0]) (size := 2) (bytes := 48) (by kernel_rfl)
  exact wp_append_own w s x 51 ho base 57 j0 _ 2 48 Tryd.underlying51 ji jz0 jz1 jz2 rfl (by decide) v n xs hs hown ⟨b, 0, none⟩ 1 1 us hx (by rw [hu]) hc h1 (by unfold maxLen; omega) (by omega) hb (fun v' w' h1 h2 _ => h v' w' h1 h2)
def ChalR (w : World) (P Q G y n e' : Int) (V : Vt) (R : Rv) (e : Ending) (w' : World) : Prop := Below w.heap.size w w' ∧ ((e' ≠ 0 ∧ e = .returned (.tuple #[.agg #[.slice none 0 0, .slice none 0 0, .slice none 0 0], .int .i64 e'])) ∨
  (e' = 0 ∧ ((¬ (rangeP Q n.toNat R ∧ matchP P G y n.toNat V R) ∧ e = .returned (.tuple #[.agg #[.slice none 0 0, .slice none 0 0, .slice none 0 0], .int .i64 362])) ∨
    ((rangeP Q n.toNat R ∧ matchP P G y n.toNat V R) ∧ ∃ (a a' : Option Addr) (c c' : Nat), e = .returned (.tuple #[.agg #[.slice none 0 0, .slice a 1 c, .slice a' 1 c'], .int .i64 0])))))

set_option maxRecDepth 100000 in
set_option maxHeartbeats 8000000 in
theorem chal_nil {P Q G y n e' : Int} {one : Bool} {V : Vt} {R : Rv} (w : World) (hT : Tabs w) (hP : 0 ≤ P) (hQ : 0 ≤ Q) (hG : 0 ≤ G) (hy : 0 ≤ y) (hV : VtIn w V) (hR : RvIn w R) (hn : V.n ≤ 10000) (hm : V.m ≤ 10000) (hrn : R.n ≤ 1000) (hrm : R.m ≤ 1000) (hc : admE P Q G y n one V e') :
    Calls Tryd.prog 20 #[.agg #[.int .u64 P, .int .u64 Q, .int .u64 G], .int .u64 y, .int .i64 n, .bool one, .agg #[.slice none 0 0, .slice none 0 0, .slice none 0 0], V.v, R.v] w (ChalR w P Q G y n e' V R) := by
  have HT := Lib.hid hT
  have HV := Lib.hid hV
  have HR := Lib.hid hR
  have F_g := Lib.hid (show Cl (((((w.alloc (.cells #[.int .u64 P, .int .u64 Q, .int .u64 G] 49)).alloc (.cells #[.slice none 0 0, .slice none 0 0, .slice none 0 0] 53)).alloc (.cells #[.slice V.a V.n V.c, .slice V.b V.m V.d, .bool V.one, .int .u64 V.z.r0, .int .u64 V.z.r1, .int .u64 V.z.s0, .int .u64 V.z.s1, .int .u64 V.z.c0, .int .u64 V.z.c1, .int .u64 V.z.z0, .int .u64 V.z.z1] 29)).alloc (.cells #[.slice R.a R.n R.c, .slice R.b R.m R.d] 57)).alloc (.cells #[.slice none 0 0, .slice none 0 0, .slice none 0 0] 53)) w.heap.size [.int .u64 P, .int .u64 Q, .int .u64 G] from ((((Cl.at w [.int .u64 P, .int .u64 Q, .int .u64 G] _ w.heap.size rfl).alloc _).alloc _).alloc _).alloc _)
  have F_b := Lib.hid (show Cl (((((w.alloc (.cells #[.int .u64 P, .int .u64 Q, .int .u64 G] 49)).alloc (.cells #[.slice none 0 0, .slice none 0 0, .slice none 0 0] 53)).alloc (.cells #[.slice V.a V.n V.c, .slice V.b V.m V.d, .bool V.one, .int .u64 V.z.r0, .int .u64 V.z.r1, .int .u64 V.z.s0, .int .u64 V.z.s1, .int .u64 V.z.c0, .int .u64 V.z.c1, .int .u64 V.z.z0, .int .u64 V.z.z1] 29)).alloc (.cells #[.slice R.a R.n R.c, .slice R.b R.m R.d] 57)).alloc (.cells #[.slice none 0 0, .slice none 0 0, .slice none 0 0] 53)) (w.heap.size + 1) [.slice none 0 0, .slice none 0 0, .slice none 0 0] from (((Cl.at (w.alloc (.cells #[.int .u64 P, .int .u64 Q, .int .u64 G] 49)) [.slice none 0 0, .slice none 0 0, .slice none 0 0] _ (w.heap.size + 1) (by simp)).alloc _).alloc _).alloc _)
  have F_v := Lib.hid (show Cl (((((w.alloc (.cells #[.int .u64 P, .int .u64 Q, .int .u64 G] 49)).alloc (.cells #[.slice none 0 0, .slice none 0 0, .slice none 0 0] 53)).alloc (.cells #[.slice V.a V.n V.c, .slice V.b V.m V.d, .bool V.one, .int .u64 V.z.r0, .int .u64 V.z.r1, .int .u64 V.z.s0, .int .u64 V.z.s1, .int .u64 V.z.c0, .int .u64 V.z.c1, .int .u64 V.z.z0, .int .u64 V.z.z1] 29)).alloc (.cells #[.slice R.a R.n R.c, .slice R.b R.m R.d] 57)).alloc (.cells #[.slice none 0 0, .slice none 0 0, .slice none 0 0] 53)) (w.heap.size + 1 + 1) [.slice V.a V.n V.c, .slice V.b V.m V.d, .bool V.one, .int .u64 V.z.r0, .int .u64 V.z.r1, .int .u64 V.z.s0, .int .u64 V.z.s1, .int .u64 V.z.c0, .int .u64 V.z.c1, .int .u64 V.z.z0, .int .u64 V.z.z1] from ((Cl.at ((w.alloc (.cells #[.int .u64 P, .int .u64 Q, .int .u64 G] 49)).alloc (.cells #[.slice none 0 0, .slice none 0 0, .slice none 0 0] 53)) [.slice V.a V.n V.c, .slice V.b V.m V.d, .bool V.one, .int .u64 V.z.r0, .int .u64 V.z.r1, .int .u64 V.z.s0, .int .u64 V.z.s1, .int .u64 V.z.c0, .int .u64 V.z.c1, .int .u64 V.z.z0, .int .u64 V.z.z1] _ (w.heap.size + 1 + 1) (by simp)).alloc _).alloc _)
  have F_r := Lib.hid (show Cl (((((w.alloc (.cells #[.int .u64 P, .int .u64 Q, .int .u64 G] 49)).alloc (.cells #[.slice none 0 0, .slice none 0 0, .slice none 0 0] 53)).alloc (.cells #[.slice V.a V.n V.c, .slice V.b V.m V.d, .bool V.one, .int .u64 V.z.r0, .int .u64 V.z.r1, .int .u64 V.z.s0, .int .u64 V.z.s1, .int .u64 V.z.c0, .int .u64 V.z.c1, .int .u64 V.z.z0, .int .u64 V.z.z1] 29)).alloc (.cells #[.slice R.a R.n R.c, .slice R.b R.m R.d] 57)).alloc (.cells #[.slice none 0 0, .slice none 0 0, .slice none 0 0] 53)) (w.heap.size + 1 + 1 + 1) [.slice R.a R.n R.c, .slice R.b R.m R.d] from (Cl.at (((w.alloc (.cells #[.int .u64 P, .int .u64 Q, .int .u64 G] 49)).alloc (.cells #[.slice none 0 0, .slice none 0 0, .slice none 0 0] 53)).alloc (.cells #[.slice V.a V.n V.c, .slice V.b V.m V.d, .bool V.one, .int .u64 V.z.r0, .int .u64 V.z.r1, .int .u64 V.z.s0, .int .u64 V.z.s1, .int .u64 V.z.c0, .int .u64 V.z.c1, .int .u64 V.z.z0, .int .u64 V.z.z1] 29)) [.slice R.a R.n R.c, .slice R.b R.m R.d] _ (w.heap.size + 1 + 1 + 1) (by simp)).alloc _)
  have F_o := Lib.hid (show Cl (((((w.alloc (.cells #[.int .u64 P, .int .u64 Q, .int .u64 G] 49)).alloc (.cells #[.slice none 0 0, .slice none 0 0, .slice none 0 0] 53)).alloc (.cells #[.slice V.a V.n V.c, .slice V.b V.m V.d, .bool V.one, .int .u64 V.z.r0, .int .u64 V.z.r1, .int .u64 V.z.s0, .int .u64 V.z.s1, .int .u64 V.z.c0, .int .u64 V.z.c1, .int .u64 V.z.z0, .int .u64 V.z.z1] 29)).alloc (.cells #[.slice R.a R.n R.c, .slice R.b R.m R.d] 57)).alloc (.cells #[.slice none 0 0, .slice none 0 0, .slice none 0 0] 53)) (w.heap.size + 1 + 1 + 1 + 1) [.slice none 0 0, .slice none 0 0, .slice none 0 0] from Cl.at ((((w.alloc (.cells #[.int .u64 P, .int .u64 Q, .int .u64 G] 49)).alloc (.cells #[.slice none 0 0, .slice none 0 0, .slice none 0 0] 53)).alloc (.cells #[.slice V.a V.n V.c, .slice V.b V.m V.d, .bool V.one, .int .u64 V.z.r0, .int .u64 V.z.r1, .int .u64 V.z.s0, .int .u64 V.z.s1, .int .u64 V.z.c0, .int .u64 V.z.c1, .int .u64 V.z.z0, .int .u64 V.z.z1] 29)).alloc (.cells #[.slice R.a R.n R.c, .slice R.b R.m R.d] 57)) [.slice none 0 0, .slice none 0 0, .slice none 0 0] _ (w.heap.size + 1 + 1 + 1 + 1) (by simp))
  have HBW := Lib.hid (show Below w.heap.size w (((((w.alloc (.cells #[.int .u64 P, .int .u64 Q, .int .u64 G] 49)).alloc (.cells #[.slice none 0 0, .slice none 0 0, .slice none 0 0] 53)).alloc (.cells #[.slice V.a V.n V.c, .slice V.b V.m V.d, .bool V.one, .int .u64 V.z.r0, .int .u64 V.z.r1, .int .u64 V.z.s0, .int .u64 V.z.s1, .int .u64 V.z.c0, .int .u64 V.z.c1, .int .u64 V.z.z0, .int .u64 V.z.z1] 29)).alloc (.cells #[.slice R.a R.n R.c, .slice R.b R.m R.d] 57)).alloc (.cells #[.slice none 0 0, .slice none 0 0, .slice none 0 0] 53)) from (((((Below.refl _ _).alloc (Nat.le_refl _) _).alloc (by simp) _).alloc (by simp <;> omega) _).alloc (by simp <;> omega) _).alloc (by simp <;> omega) _)
  have HC := Lib.hid hc
  have g0 := F_g.out.c 0 _ rfl
  have g1 := F_g.out.c 1 _ rfl
  have g2 := F_g.out.c 2 _ rfl
  have b0 := F_b.out.c 0 _ rfl
  have b1 := F_b.out.c 1 _ rfl
  have b2 := F_b.out.c 2 _ rfl
  obtain ⟨⟨q0, q1, q2, q3, q4, q5, q6, q7, q8, q9, q10⟩, -⟩ := F_v.out.k11
  clear hT hV hR hc
  unfold Vt.v Rv.v
  go_enter Tryd.func20, Tryd.ntmps20
  go_wp2_with fail
  clear g0 g1 g2 b0 b1 b2 q0 q1 q2 q3 q4 q5 q6 q7 q8 q9 q10
  refine (admit_nil (V := V) _ (HT.out.below HBW.out) hP hQ hG hy (HV.out.keep HBW.out) HC.out).mono ?_
  rintro e w1 ⟨rfl, hb1⟩
  replace F_g := Lib.hid (F_g.out.keep hb1)
  replace F_b := Lib.hid (F_b.out.keep hb1)
  replace F_v := Lib.hid (F_v.out.keep hb1)
  replace F_r := Lib.hid (F_r.out.keep hb1)
  replace F_o := Lib.hid (F_o.out.keep hb1)
  replace HBW := Lib.hid (HBW.out.trans (hb1.mono HBW.out.size))
  clear hb1
  by_cases he : e' = 0
  case neg =>
    have HE := Lib.hid he
    go_wp2_with (first
      | (refine wpL_storeCl rfl 53 (.tmp 14) (.tmp 33) (w.heap.size + 1 + 1 + 1 + 1) 0 _ [.slice none 0 0, .slice none 0 0, .slice none 0 0] [.slice none 0 0, .slice none 0 0, .slice none 0 0] rfl rfl rfl rfl (by kernel_rfl) (by intro u hu; simp at hu; rcases hu with rfl | rfl | rfl <;> rfl) F_o.out (by simp) rfl ?_
         intro w8 hc8 hg8 hz8
         have F_q := Lib.hid hc8
         have HG8 := Lib.hid hg8
         have hz8' := hz8
         clear hc8 hg8 hz8))
    refine bodyPost_ret (res_booth2 rfl F_q.out _ rfl rfl) rfl ?_
    exact ⟨HBW.out.trans (HG8.out.blw (n := w.heap.size) (by omega) HBW.out.size), .inl ⟨HE.out, rfl⟩⟩
  case pos =>
    subst he
    have HK0 : chkB P Q G y n = 0 := by
      have := HC.out
      unfold admE at this
      rcases this with ⟨h1, h2⟩ | ⟨h1, -⟩
      · exact absurd h2.symm h1
      · exact h1
    have HK := Lib.hid HK0
    clear HK0
    have g0 := F_g.out.c 0 _ rfl
    have g1 := F_g.out.c 1 _ rfl
    have g2 := F_g.out.c 2 _ rfl
    have r0 := F_r.out.c 0 _ rfl
    have r1 := F_r.out.c 1 _ rfl
    obtain ⟨⟨q0, q1, q2, q3, q4, q5, q6, q7, q8, q9, q10⟩, -⟩ := F_v.out.k11
    go_wp2_with fail
    clear g0 g1 g2 r0 r1 q0 q1 q2 q3 q4 q5 q6 q7 q8 q9 q10
    refine (matches_any (V := V) (R := R) _ (HT.out.below HBW.out) hP hQ hG hy (HV.out.keep HBW.out) (HR.out.keep HBW.out) hrn).mono ?_
    rintro e w2 ⟨hb2, hm2⟩
    replace F_b := Lib.hid (F_b.out.keep hb2)
    replace F_v := Lib.hid (F_v.out.keep hb2)
    replace F_r := Lib.hid (F_r.out.keep hb2)
    replace F_o := Lib.hid (F_o.out.keep hb2)
    replace HBW := Lib.hid (HBW.out.trans (hb2.mono HBW.out.size))
    clear hb2 F_g
    rcases hm2 with ⟨h1, -⟩ | ⟨-, ⟨h1, rfl⟩ | ⟨h1, vm, rfl, hvm⟩⟩
    · exact absurd HK.out h1
    · have HNR := Lib.hid h1
      clear h1
      go_wp2_with (first
        | (refine wpL_storeCl rfl 53 (.tmp 14) (.tmp 50) (w.heap.size + 1 + 1 + 1 + 1) 0 _ [.slice none 0 0, .slice none 0 0, .slice none 0 0] [.slice none 0 0, .slice none 0 0, .slice none 0 0] rfl rfl rfl rfl (by kernel_rfl) (by intro u hu; simp at hu; rcases hu with rfl | rfl | rfl <;> rfl) F_o.out (by simp) rfl ?_
           intro w8 hc8 hg8 hz8
           have F_q := Lib.hid hc8
           have HG8 := Lib.hid hg8
           have hz8' := hz8
           clear hc8 hg8 hz8))
      refine bodyPost_ret (res_booth2 rfl F_q.out _ rfl rfl) rfl ?_
      exact ⟨HBW.out.trans (HG8.out.blw (n := w.heap.size) (by omega) HBW.out.size), .inr ⟨rfl, .inl ⟨fun h => HNR.out h.1, rfl⟩⟩⟩
    cases vm with
    | false =>
      have HNR := Lib.hid (show ¬ matchP P G y n.toNat V R from fun h => by have := hvm.2 h; cases this)
      clear h1 hvm
      go_wp2_with (first
        | (refine wpL_storeCl rfl 53 (.tmp 14) (.tmp 50) (w.heap.size + 1 + 1 + 1 + 1) 0 _ [.slice none 0 0, .slice none 0 0, .slice none 0 0] [.slice none 0 0, .slice none 0 0, .slice none 0 0] rfl rfl rfl rfl (by kernel_rfl) (by intro u hu; simp at hu; rcases hu with rfl | rfl | rfl <;> rfl) F_o.out (by simp) rfl ?_
           intro w8 hc8 hg8 hz8
           have F_q := Lib.hid hc8
           have HG8 := Lib.hid hg8
           have hz8' := hz8
           clear hc8 hg8 hz8))
      refine bodyPost_ret (res_booth2 rfl F_q.out _ rfl rfl) rfl ?_
      exact ⟨HBW.out.trans (HG8.out.blw (n := w.heap.size) (by omega) HBW.out.size), .inr ⟨rfl, .inl ⟨fun h => HNR.out h.2, rfl⟩⟩⟩
    | true =>
    have HYES := Lib.hid (show rangeP Q n.toNat R ∧ matchP P G y n.toNat V R from ⟨h1, hvm.1 rfl⟩)
    clear h1 hvm
    have b0 := F_b.out.c 0 _ rfl
    have b1 := F_b.out.c 1 _ rfl
    have b2 := F_b.out.c 2 _ rfl
    go_wp2_with fail
    clear b0 b1 b2
    refine (twin_nil _).mono ?_
    rintro e w3 ⟨rfl, hb3⟩
    replace F_v := Lib.hid (F_v.out.keep hb3)
    replace F_r := Lib.hid (F_r.out.keep hb3)
    replace F_o := Lib.hid (F_o.out.keep hb3)
    replace HBW := Lib.hid (HBW.out.trans (hb3.mono HBW.out.size))
    clear hb3 F_b
    have hl := F_o.out.lt
    obtain ⟨wo, rfl⟩ : ∃ wo, wo = w3 := ⟨_, rfl⟩
    go_wp2_with fail
    have F_t := Lib.hid (Cl.at wo [.slice none 0 0, .slice none 0 0, .slice none 0 0] 53 wo.heap.size rfl)
    replace F_v := Lib.hid (F_v.out.alloc (.cells #[.slice none 0 0, .slice none 0 0, .slice none 0 0] 53))
    replace F_r := Lib.hid (F_r.out.alloc (.cells #[.slice none 0 0, .slice none 0 0, .slice none 0 0] 53))
    replace F_o := Lib.hid (F_o.out.alloc (.cells #[.slice none 0 0, .slice none 0 0, .slice none 0 0] 53))
    replace HBW := Lib.hid (HBW.out.alloc HBW.out.size (.cells #[.slice none 0 0, .slice none 0 0, .slice none 0 0] 53))
    obtain ⟨HB, hHB⟩ : ∃ B, B = wo.heap.size := ⟨_, rfl⟩
    have hlo : (w.heap.size + 1 + 1 + 1 + 1) < HB := by rw [hHB]; exact hl
    have hls : HB < (wo.alloc (.cells #[.slice none 0 0, .slice none 0 0, .slice none 0 0] 53)).heap.size := by rw [hHB]; simp
    rw [← hHB] at F_t ⊢
    clear hHB hl
    obtain ⟨wx, hwx⟩ : ∃ wx, wx = wo.alloc (.cells #[.slice none 0 0, .slice none 0 0, .slice none 0 0] 53) := ⟨_, rfl⟩
    rw [← hwx] at F_t F_v F_r F_o HBW hls ⊢
    clear hwx
    replace F_t := Lib.hid F_t.out.drew
    replace F_v := Lib.hid F_v.out.drew
    replace F_r := Lib.hid F_r.out.drew
    replace F_o := Lib.hid F_o.out.drew
    replace HBW := Lib.hid HBW.out.drew
    have hS : wx.drew.cell? ⟨HB, 1, none⟩ = some (.slice none 0 0) ∧ wx.drew.cell? ⟨HB, 2, none⟩ = some (.slice none 0 0) ∧ Cl wx.drew (w.heap.size + 1 + 1) [.slice V.a V.n V.c, .slice V.b V.m V.d, .bool V.one, .int .u64 V.z.r0, .int .u64 V.z.r1, .int .u64 V.z.s0, .int .u64 V.z.s1, .int .u64 V.z.c0, .int .u64 V.z.c1, .int .u64 V.z.z0, .int .u64 V.z.z1] ∧ Cl wx.drew (w.heap.size + 1 + 1 + 1) [.slice R.a R.n R.c, .slice R.b R.m R.d] := ⟨F_t.out.c 1 _ rfl, F_t.out.c 2 _ rfl, F_v.out, F_r.out⟩
    refine wp_region_stage 11 (fun w' => w'.cell? ⟨HB, 1, none⟩ = some (.slice none 0 0) ∧ w'.cell? ⟨HB, 2, none⟩ = some (.slice none 0 0) ∧ Cl w' (w.heap.size + 1 + 1) [.slice V.a V.n V.c, .slice V.b V.m V.d, .bool V.one, .int .u64 V.z.r0, .int .u64 V.z.r1, .int .u64 V.z.s0, .int .u64 V.z.s1, .int .u64 V.z.c0, .int .u64 V.z.c1, .int .u64 V.z.z0, .int .u64 V.z.z1] ∧ Cl w' (w.heap.size + 1 + 1 + 1) [.slice R.a R.n R.c, .slice R.b R.m R.d]) (by kernel_rfl) ?_
    refine wpAnyB_takeP (i := 0) (some 56) (Op.fieldAddr 53 (Operand.tmp 20) 1) 0 (v := ?_) ⟨_, rfl, rfl, rfl, rfl, rfl⟩ (by kernel_rfl) (by kernel_rfl) (by kernel_rfl) (by kernel_rfl) (fun _ _ _ h => h) (fun _ => hS) (fun w' => ?_) ?_
    rotate_left
    · unfold bareOp
      go_simp
      try with_reducible rfl
    simp only [Act.put, sZc, sZa, sZb]
    refine wpAnyB_take (i := 1) (some 57) (Op.load 50 (Operand.tmp 56)) 50 (v := ?_) ⟨_, rfl, rfl, rfl, rfl, rfl⟩ (by kernel_rfl) (by kernel_rfl) (by kernel_rfl) [5, 9, 10, 11] (by kernel_rfl) (fun _ _ _ h => h) hS (fun w' hSw => ?_) ?_
    rotate_left
    · obtain ⟨s1, s2, s3, s4⟩ := hSw; obtain ⟨⟨q0, q1, q2, q3, q4, q5, q6, q7, q8, q9, q10⟩, -⟩ := s3.k11; have s5 := s4.c 0 _ rfl; have s6 := s4.c 1 _ rfl
      unfold bareOp
      go_simp
      try with_reducible rfl
    simp only [Act.put, sZc, sZa, sZb]
    refine wpAnyB_take (i := 2) (some 58) (Op.load 29 (Operand.tmp 12)) 29 (v := ?_) ⟨_, rfl, rfl, rfl, rfl, rfl⟩ (by kernel_rfl) (by kernel_rfl) (by kernel_rfl) [3, 4, 5, 9, 10, 11] (by kernel_rfl) (fun _ _ _ h => h) hS (fun w' hSw => ?_) ?_
    rotate_left
    · obtain ⟨s1, s2, s3, s4⟩ := hSw; obtain ⟨⟨q0, q1, q2, q3, q4, q5, q6, q7, q8, q9, q10⟩, -⟩ := s3.k11; have s5 := s4.c 0 _ rfl; have s6 := s4.c 1 _ rfl
      unfold bareOp
      go_simp
      try with_reducible rfl
    simp only [Act.put, sZc, sZa, sZb]
    refine wpAnyB_takeP (i := 6) (some 62) (Op.fieldAddr 53 (Operand.tmp 20) 2) 0 (v := ?_) ⟨_, rfl, rfl, rfl, rfl, rfl⟩ (by kernel_rfl) (by kernel_rfl) (by kernel_rfl) (by kernel_rfl) (fun _ _ _ h => h) (fun _ => hS) (fun w' => ?_) ?_
    rotate_left
    · unfold bareOp
      go_simp
      try with_reducible rfl
    simp only [Act.put, sZc, sZa, sZb]
    refine wpAnyB_take (i := 7) (some 63) (Op.load 51 (Operand.tmp 62)) 51 (v := ?_) ⟨_, rfl, rfl, rfl, rfl, rfl⟩ (by kernel_rfl) (by kernel_rfl) (by kernel_rfl) [11] (by kernel_rfl) (fun _ _ _ h => h) hS (fun w' hSw => ?_) ?_
    rotate_left
    · obtain ⟨s1, s2, s3, s4⟩ := hSw; obtain ⟨⟨q0, q1, q2, q3, q4, q5, q6, q7, q8, q9, q10⟩, -⟩ := s3.k11; have s5 := s4.c 0 _ rfl; have s6 := s4.c 1 _ rfl
      unfold bareOp
      go_simp
      try with_reducible rfl
    simp only [Act.put, sZc, sZa, sZb]
    refine wpAnyB_take (i := 8) (some 64) (Op.load 57 (Operand.tmp 13)) 57 (v := ?_) ⟨_, rfl, rfl, rfl, rfl, rfl⟩ (by kernel_rfl) (by kernel_rfl) (by kernel_rfl) [9, 10, 11] (by kernel_rfl) (fun _ _ _ h => h) hS (fun w' hSw => ?_) ?_
    rotate_left
    · obtain ⟨s1, s2, s3, s4⟩ := hSw; obtain ⟨⟨q0, q1, q2, q3, q4, q5, q6, q7, q8, q9, q10⟩, -⟩ := s3.k11; have s5 := s4.c 0 _ rfl; have s6 := s4.c 1 _ rfl
      unfold bareOp
      go_simp
      try with_reducible rfl
    simp only [Act.put, sZc, sZa, sZb]
    refine wpAnyB_only (i := 3) (some 59) (Op.call { callee := Callee.value (Operand.func 41), args := #[Operand.tmp 58], argTypes := #[29] }) 29 ⟨_, rfl, rfl, rfl, rfl, rfl⟩ (by kernel_rfl) (fun K hK => ?_)
    unfold bareOp
    go_wp2_with (go_at_call 41; refine (twinVote_any (V := V) _ (HV.out.keep HBW.out) hn hm).mono ?_; rintro e w5 ⟨U, rfl, hU5, hS5, hb5⟩)
    replace F_t := Lib.hid (F_t.out.keep hb5)
    replace F_v := Lib.hid (F_v.out.keep hb5)
    replace F_r := Lib.hid (F_r.out.keep hb5)
    replace F_o := Lib.hid (F_o.out.keep hb5)
    replace HBW := Lib.hid (HBW.out.trans (hb5.mono HBW.out.size))
    clear hS
    have hS := (show World.cell? _ ⟨HB, 1, none⟩ = some (.slice none 0 0) ∧ World.cell? _ ⟨HB, 2, none⟩ = some (.slice none 0 0) ∧ Cl _ (w.heap.size + 1 + 1) [.slice V.a V.n V.c, .slice V.b V.m V.d, .bool V.one, .int .u64 V.z.r0, .int .u64 V.z.r1, .int .u64 V.z.s0, .int .u64 V.z.s1, .int .u64 V.z.c0, .int .u64 V.z.c1, .int .u64 V.z.z0, .int .u64 V.z.z1] ∧ Cl _ (w.heap.size + 1 + 1 + 1) [.slice R.a R.n R.c, .slice R.b R.m R.d] from ⟨F_t.out.c 1 _ rfl, F_t.out.c 2 _ rfl, F_v.out, F_r.out⟩)
    have hz5 := hb5.size
    have hls5 : HB < w5.heap.size := by (try simp only [World.size_drew] at hz5); omega
    unfold Vt.v
    clear hb5 hU5 hS5 hz5
    refine hK.out _ _ (fun _ => hS) ?_
    clear hK K
    try simp only [Act.put, sZc, sZa, sZb]
    refine wpAnyB_only (i := 4) (some 60) (Op.buildSlice 50 1 #[(0, Operand.tmp 59)]) 50 ⟨_, rfl, rfl, rfl, rfl, rfl⟩ (by kernel_rfl) (fun K hK => ?_)
    unfold bareOp
    go_wp2_with fail
    replace F_t := Lib.hid (F_t.out.alloc (.cells #[.slice U.a U.n U.c, .slice U.b U.m U.d, .bool U.one, .int .u64 U.z.r0, .int .u64 U.z.r1, .int .u64 U.z.s0, .int .u64 U.z.s1, .int .u64 U.z.c0, .int .u64 U.z.c1, .int .u64 U.z.z0, .int .u64 U.z.z1] 29))
    replace F_v := Lib.hid (F_v.out.alloc (.cells #[.slice U.a U.n U.c, .slice U.b U.m U.d, .bool U.one, .int .u64 U.z.r0, .int .u64 U.z.r1, .int .u64 U.z.s0, .int .u64 U.z.s1, .int .u64 U.z.c0, .int .u64 U.z.c1, .int .u64 U.z.z0, .int .u64 U.z.z1] 29))
    replace F_r := Lib.hid (F_r.out.alloc (.cells #[.slice U.a U.n U.c, .slice U.b U.m U.d, .bool U.one, .int .u64 U.z.r0, .int .u64 U.z.r1, .int .u64 U.z.s0, .int .u64 U.z.s1, .int .u64 U.z.c0, .int .u64 U.z.c1, .int .u64 U.z.z0, .int .u64 U.z.z1] 29))
    replace F_o := Lib.hid (F_o.out.alloc (.cells #[.slice U.a U.n U.c, .slice U.b U.m U.d, .bool U.one, .int .u64 U.z.r0, .int .u64 U.z.r1, .int .u64 U.z.s0, .int .u64 U.z.s1, .int .u64 U.z.c0, .int .u64 U.z.c1, .int .u64 U.z.z0, .int .u64 U.z.z1] 29))
    replace HBW := Lib.hid (HBW.out.alloc HBW.out.size (.cells #[.slice U.a U.n U.c, .slice U.b U.m U.d, .bool U.one, .int .u64 U.z.r0, .int .u64 U.z.r1, .int .u64 U.z.s0, .int .u64 U.z.s1, .int .u64 U.z.c0, .int .u64 U.z.c1, .int .u64 U.z.z0, .int .u64 U.z.z1] 29))
    clear hS
    have hS := (show World.cell? _ ⟨HB, 1, none⟩ = some (.slice none 0 0) ∧ World.cell? _ ⟨HB, 2, none⟩ = some (.slice none 0 0) ∧ Cl _ (w.heap.size + 1 + 1) [.slice V.a V.n V.c, .slice V.b V.m V.d, .bool V.one, .int .u64 V.z.r0, .int .u64 V.z.r1, .int .u64 V.z.s0, .int .u64 V.z.s1, .int .u64 V.z.c0, .int .u64 V.z.c1, .int .u64 V.z.z0, .int .u64 V.z.z1] ∧ Cl _ (w.heap.size + 1 + 1 + 1) [.slice R.a R.n R.c, .slice R.b R.m R.d] from ⟨F_t.out.c 1 _ rfl, F_t.out.c 2 _ rfl, F_v.out, F_r.out⟩)
    refine hK.out _ _ (fun _ => hS) ?_
    clear hK K
    try simp only [Act.put, sZc, sZa, sZb]
    refine wpAnyB_only (i := 5) (some 61) (Op.call { callee := Callee.builtin Builtin.append, args := #[Operand.tmp 57, Operand.tmp 60], argTypes := #[50, 50] }) 50 ⟨_, rfl, rfl, rfl, rfl, rfl⟩ (by kernel_rfl) (fun K hK => ?_)
    unfold bareOp
    refine wp_push_v (.tmp 57) (.tmp 60) rfl w5.heap.size 0 w5.heap.size (.slice none 0 0) [] [.slice U.a U.n U.c, .slice U.b U.m U.d, .bool U.one, .int .u64 U.z.r0, .int .u64 U.z.r1, .int .u64 U.z.s0, .int .u64 U.z.s1, .int .u64 U.z.c0, .int .u64 U.z.c1, .int .u64 U.z.z0, .int .u64 U.z.z1] ?jjv ?jjx ?jjo ?jjn ?jj1 ?jjc ?jjm ?jjb ?_; (case jjv => kernel_rfl); (case jjx => kernel_rfl); (case jjo => exact World.ownsRow_nil _ _ _ _); (case jjn => rfl); (case jj1 => (intro u hu; simp at hu; rcases hu with rfl | rfl | rfl | rfl | rfl | rfl | rfl | rfl | rfl | rfl | rfl <;> rfl)); (case jjc => exact cell_list_at _ _ _ _ rfl); (case jjm => omega); (case jjb => simp); intro v9 w9 hown hgr; obtain ⟨a9, c9, rfl⟩ := own_slice hown; have HB9 := Lib.hid (Below.rowT (n := w5.heap.size) hgr (fun k hk => by simp [Value.ownBlock] at hk) (by simp)); clear hown hgr
    replace F_t := Lib.hid (F_t.out.keepN HB9.out (by omega))
    replace F_v := Lib.hid (F_v.out.keepN HB9.out (by omega))
    replace F_r := Lib.hid (F_r.out.keepN HB9.out (by omega))
    replace F_o := Lib.hid (F_o.out.keepN HB9.out (by omega))
    replace HBW := Lib.hid (HBW.out.trans (HB9.out.mono (by have := HBW.out.size; simp at this; omega)))
    clear hS
    have hS := (show World.cell? _ ⟨HB, 1, none⟩ = some (.slice none 0 0) ∧ World.cell? _ ⟨HB, 2, none⟩ = some (.slice none 0 0) ∧ Cl _ (w.heap.size + 1 + 1) [.slice V.a V.n V.c, .slice V.b V.m V.d, .bool V.one, .int .u64 V.z.r0, .int .u64 V.z.r1, .int .u64 V.z.s0, .int .u64 V.z.s1, .int .u64 V.z.c0, .int .u64 V.z.c1, .int .u64 V.z.z0, .int .u64 V.z.z1] ∧ Cl _ (w.heap.size + 1 + 1 + 1) [.slice R.a R.n R.c, .slice R.b R.m R.d] from ⟨F_t.out.c 1 _ rfl, F_t.out.c 2 _ rfl, F_v.out, F_r.out⟩)
    have hls9 : HB < w9.heap.size := by have := HB9.out.size; simp at this; omega
    clear HB9
    refine hK.out _ _ (fun _ => hS) ?_
    clear hK K
    try simp only [Act.put, sZc, sZa, sZb]
    refine wpAnyB_takeP (i := 12) (some 68) (Op.fieldAddr 53 (Operand.tmp 20) 1) 0 (v := ?_) ⟨_, rfl, rfl, rfl, rfl, rfl⟩ (by kernel_rfl) (by kernel_rfl) (by kernel_rfl) (by kernel_rfl) (fun _ _ _ h => h) (fun _ => hS) (fun w' => ?_) ?_
    rotate_left
    · unfold bareOp
      go_simp
      try with_reducible rfl
    simp only [Act.put, sZc, sZa, sZb]
    refine wpAnyB_only (i := 9) (some 65) (Op.call { callee := Callee.value (Operand.func 42), args := #[Operand.tmp 64], argTypes := #[57] }) 57 ⟨_, rfl, rfl, rfl, rfl, rfl⟩ (by kernel_rfl) (fun K hK => ?_)
    unfold bareOp
    go_wp2_with (go_at_call 42; refine (twinReveal_any (R := R) _ (HR.out.keep HBW.out) (by omega) (by omega)).mono ?_; rintro e w7 ⟨T, rfl, hU7, hS7, hb7⟩)
    replace F_t := Lib.hid (F_t.out.keep hb7)
    replace F_v := Lib.hid (F_v.out.keep hb7)
    replace F_r := Lib.hid (F_r.out.keep hb7)
    replace F_o := Lib.hid (F_o.out.keep hb7)
    replace HBW := Lib.hid (HBW.out.trans (hb7.mono HBW.out.size))
    clear hS
    have hS := (show World.cell? _ ⟨HB, 1, none⟩ = some (.slice none 0 0) ∧ World.cell? _ ⟨HB, 2, none⟩ = some (.slice none 0 0) ∧ Cl _ (w.heap.size + 1 + 1) [.slice V.a V.n V.c, .slice V.b V.m V.d, .bool V.one, .int .u64 V.z.r0, .int .u64 V.z.r1, .int .u64 V.z.s0, .int .u64 V.z.s1, .int .u64 V.z.c0, .int .u64 V.z.c1, .int .u64 V.z.z0, .int .u64 V.z.z1] ∧ Cl _ (w.heap.size + 1 + 1 + 1) [.slice R.a R.n R.c, .slice R.b R.m R.d] from ⟨F_t.out.c 1 _ rfl, F_t.out.c 2 _ rfl, F_v.out, F_r.out⟩)
    have hz7 := hb7.size
    have hls7 : HB < w7.heap.size := by omega
    unfold Rv.v
    clear hb7 hU7 hS7 hz7
    refine hK.out _ _ (fun _ => hS) ?_
    clear hK K
    try simp only [Act.put, sZc, sZa, sZb]
    refine wpAnyB_only (i := 10) (some 66) (Op.buildSlice 51 1 #[(0, Operand.tmp 65)]) 51 ⟨_, rfl, rfl, rfl, rfl, rfl⟩ (by kernel_rfl) (fun K hK => ?_)
    unfold bareOp
    go_wp2_with fail
    replace F_t := Lib.hid (F_t.out.alloc (.cells #[.slice T.a T.n T.c, .slice T.b T.m T.d] 57))
    replace F_v := Lib.hid (F_v.out.alloc (.cells #[.slice T.a T.n T.c, .slice T.b T.m T.d] 57))
    replace F_r := Lib.hid (F_r.out.alloc (.cells #[.slice T.a T.n T.c, .slice T.b T.m T.d] 57))
    replace F_o := Lib.hid (F_o.out.alloc (.cells #[.slice T.a T.n T.c, .slice T.b T.m T.d] 57))
    replace HBW := Lib.hid (HBW.out.alloc HBW.out.size (.cells #[.slice T.a T.n T.c, .slice T.b T.m T.d] 57))
    clear hS
    have hS := (show World.cell? _ ⟨HB, 1, none⟩ = some (.slice none 0 0) ∧ World.cell? _ ⟨HB, 2, none⟩ = some (.slice none 0 0) ∧ Cl _ (w.heap.size + 1 + 1) [.slice V.a V.n V.c, .slice V.b V.m V.d, .bool V.one, .int .u64 V.z.r0, .int .u64 V.z.r1, .int .u64 V.z.s0, .int .u64 V.z.s1, .int .u64 V.z.c0, .int .u64 V.z.c1, .int .u64 V.z.z0, .int .u64 V.z.z1] ∧ Cl _ (w.heap.size + 1 + 1 + 1) [.slice R.a R.n R.c, .slice R.b R.m R.d] from ⟨F_t.out.c 1 _ rfl, F_t.out.c 2 _ rfl, F_v.out, F_r.out⟩)
    refine hK.out _ _ (fun _ => hS) ?_
    clear hK K
    try simp only [Act.put, sZc, sZa, sZb]
    refine wpAnyB_only (i := 11) (some 67) (Op.call { callee := Callee.builtin Builtin.append, args := #[Operand.tmp 63, Operand.tmp 66], argTypes := #[51, 51] }) 51 ⟨_, rfl, rfl, rfl, rfl, rfl⟩ (by kernel_rfl) (fun K hK => ?_)
    unfold bareOp
    refine wp_push_r (.tmp 63) (.tmp 66) rfl w7.heap.size 0 w7.heap.size (.slice none 0 0) [] [.slice T.a T.n T.c, .slice T.b T.m T.d] ?jjv ?jjx ?jjo ?jjn ?jj1 ?jjc ?jjm ?jjb ?_; (case jjv => kernel_rfl); (case jjx => kernel_rfl); (case jjo => exact World.ownsRow_nil _ _ _ _); (case jjn => rfl); (case jj1 => (intro u hu; simp at hu; rcases hu with rfl | rfl <;> rfl)); (case jjc => exact cell_list_at _ _ _ _ rfl); (case jjm => omega); (case jjb => simp); intro v8 w8 hown hgr; obtain ⟨a8, c8, rfl⟩ := own_slice hown; have HB9 := Lib.hid (Below.rowT (n := w7.heap.size) hgr (fun k hk => by simp [Value.ownBlock] at hk) (by simp)); clear hown hgr
    replace F_t := Lib.hid (F_t.out.keepN HB9.out (by omega))
    replace F_v := Lib.hid (F_v.out.keepN HB9.out (by omega))
    replace F_r := Lib.hid (F_r.out.keepN HB9.out (by omega))
    replace F_o := Lib.hid (F_o.out.keepN HB9.out (by omega))
    replace HBW := Lib.hid (HBW.out.trans (HB9.out.mono (by have := HBW.out.size; simp at this; omega)))
    clear hS
    have hS := (show World.cell? _ ⟨HB, 1, none⟩ = some (.slice none 0 0) ∧ World.cell? _ ⟨HB, 2, none⟩ = some (.slice none 0 0) ∧ Cl _ (w.heap.size + 1 + 1) [.slice V.a V.n V.c, .slice V.b V.m V.d, .bool V.one, .int .u64 V.z.r0, .int .u64 V.z.r1, .int .u64 V.z.s0, .int .u64 V.z.s1, .int .u64 V.z.c0, .int .u64 V.z.c1, .int .u64 V.z.z0, .int .u64 V.z.z1] ∧ Cl _ (w.heap.size + 1 + 1 + 1) [.slice R.a R.n R.c, .slice R.b R.m R.d] from ⟨F_t.out.c 1 _ rfl, F_t.out.c 2 _ rfl, F_v.out, F_r.out⟩)
    have hls8 : HB < w8.heap.size := by have := HB9.out.size; simp at this; omega
    clear HB9
    refine hK.out _ _ (fun h => absurd (h.symm.trans (by kernel_rfl : _ = true)) (by decide)) ?_
    clear hK K
    try simp only [Act.put, sZc, sZa, sZb]
    have q1 := F_t.out.c 1 _ rfl
    have qf1 := F_t.out.f 1
    refine wpAnyB_only (i := 13) none (Op.store 50 (Operand.tmp 68) (Operand.tmp 61)) 0 ⟨_, rfl, rfl, rfl, rfl, rfl⟩ (by kernel_rfl) (fun K hK => ?_)
    unfold bareOp
    go_wp2_with fail
    replace F_t := Lib.hid (F_t.out.set (m := [.slice none 0 0, .slice a9 1 c9, .slice none 0 0]) 1 (.slice a9 1 c9) (by simp) rfl)
    replace F_o := Lib.hid (F_o.out.far ⟨HB, 1, none⟩ (.slice a9 1 c9) (by simp <;> omega))
    replace HBW := Lib.hid (HBW.out.setCell (p := ⟨HB, 1, none⟩) (by simp <;> omega) (.slice a9 1 c9))
    refine hK.out _ _ (fun h => absurd (h.symm.trans (by kernel_rfl : _ = true)) (by decide)) ?_
    clear hK K
    try simp only [Act.put, sZc, sZa, sZb]
    refine wpAnyB_takeP (i := 14) (some 69) (Op.fieldAddr 53 (Operand.tmp 20) 2) 0 (v := ?_) ⟨_, rfl, rfl, rfl, rfl, rfl⟩ (by kernel_rfl) (by kernel_rfl) (by kernel_rfl) (by kernel_rfl) (fun _ _ _ h => h) (fun h => absurd (h.symm.trans (by kernel_rfl : _ = true)) (by decide)) (fun w' => ?_) ?_
    rotate_left
    · unfold bareOp
      go_simp
      try with_reducible rfl
    simp only [Act.put, sZc, sZa, sZb]
    have q2 := F_t.out.c 2 _ rfl
    have qf2 := F_t.out.f 2
    refine wpAnyB_only (i := 15) none (Op.store 51 (Operand.tmp 69) (Operand.tmp 67)) 0 ⟨_, rfl, rfl, rfl, rfl, rfl⟩ (by kernel_rfl) (fun K hK => ?_)
    unfold bareOp
    go_wp2_with fail
    replace F_t := Lib.hid (F_t.out.set (m := [.slice none 0 0, .slice a9 1 c9, .slice a8 1 c8]) 2 (.slice a8 1 c8) (by simp) rfl)
    replace F_o := Lib.hid (F_o.out.far ⟨HB, 2, none⟩ (.slice a8 1 c8) (by simp <;> omega))
    replace HBW := Lib.hid (HBW.out.setCell (p := ⟨HB, 2, none⟩) (by simp <;> omega) (.slice a8 1 c8))
    refine hK.out _ _ (fun h => absurd (h.symm.trans (by kernel_rfl : _ = true)) (by decide)) ?_
    clear hK K
    try simp only [Act.put, sZc, sZa, sZb]
    refine wpAnyB_done (by kernel_rfl) ?_ _
    have o0 := F_o.out.c 0 _ rfl
    have o1 := F_o.out.c 1 _ rfl
    have o2 := F_o.out.c 2 _ rfl
    have of0 := F_o.out.f 0
    have of1 := F_o.out.f 1
    have of2 := F_o.out.f 2
    have l0 := F_t.out.c 0 _ rfl
    have l1 := F_t.out.c 1 _ rfl
    have l2 := F_t.out.c 2 _ rfl
    go_wp2_with fail
    have F_z := Lib.hid (((F_o.out.set (m := [.slice none 0 0, .slice none 0 0, .slice none 0 0]) 0 (.slice none 0 0) (by simp) rfl).set (m := [.slice none 0 0, .slice a9 1 c9, .slice none 0 0]) 1 (.slice a9 1 c9) (by simp) rfl).set (m := [.slice none 0 0, .slice a9 1 c9, .slice a8 1 c8]) 2 (.slice a8 1 c8) (by simp) rfl)
    refine bodyPost_ret (res_booth2 rfl F_z.out _ rfl rfl) rfl ?_
    exact ⟨((HBW.out.setCell (by simp <;> omega) _).setCell (by simp <;> omega) _).setCell (by simp <;> omega) _, .inr ⟨rfl, .inr ⟨HYES.out, a9, a8, c9, c8, rfl⟩⟩⟩
end Go.Proofs.YtlbldpkgnonbpaaDoor
namespace Go.Proofs.YtlbldpkgnonbpaaDoor
open Go
set_option linter.unusedSimpArgs false
set_option linter.unusedVariables false

section
variable {P : Program} {ops : Array Oper} {Q : Exit → Act → World → Prop} {md : Region.Mode} {b : Nat} {S : World → Prop}

def putC (y : Nat → Option Value) : List (Nat × Tmp) → Act → Act
  | [], a => a
  | p :: ds, a => putC y ds (a.put (some p.2) ((y p.1).getD (a.eval (.tmp p.2))))
def listC (y : Nat → Option Value) : List (Nat × Tmp) → Array Bool → Array Bool
  | [], l => l
  | p :: ds, l => listC y ds (if (y p.1).isSome then l.setIfInBounds p.1 true else l)
def updC (y : Nat → Option Value) (j : Nat) (v : Value) : Nat → Option Value := fun k => if k = j then some v else y k
@[simp] theorem updC_same (y : Nat → Option Value) (j : Nat) (v : Value) : updC y j v j = some v := by simp [updC]
theorem updC_ne (y : Nat → Option Value) {j k : Nat} (v : Value) (h : k ≠ j) : updC y j v k = y k := by simp [updC, h]

theorem put_comm (a : Act) {d e : Tmp} (u v : Value) (h : d ≠ e) : (a.put (some d) u).put (some e) v = (a.put (some e) v).put (some d) u := by
  simp only [Act.put]
  rw [Array.setIfInBounds_comm _ _ h]
theorem put_twice (a : Act) (d : Tmp) (u v : Value) : (a.put (some d) u).put (some d) v = a.put (some d) v := by
  simp [Act.put]
theorem eval_put_ne (a : Act) {d e : Tmp} (u : Value) (h : d ≠ e) : (a.put (some d) u).eval (.tmp e) = a.eval (.tmp e) := by
  simp [Act.put, Act.eval, Array.getElem?_setIfInBounds, h]
theorem putC_put (y : Nat → Option Value) : ∀ (ds : List (Nat × Tmp)) (a : Act) (d : Tmp) (v : Value), d ∉ ds.map Prod.snd → putC y ds (a.put (some d) v) = (putC y ds a).put (some d) v
  | [], _, _, _, _ => rfl
  | p :: ds, a, d, v, h => by
    have hne : d ≠ p.2 := fun e => h (by simp [e])
    show putC y ds ((a.put (some d) v).put (some p.2) ((y p.1).getD ((a.put (some d) v).eval (.tmp p.2)))) = _
    rw [eval_put_ne a v hne, put_comm a v _ hne, putC_put y ds _ d v (fun hm => h (by simp at hm ⊢; exact .inr hm))]
    rfl
theorem putC_same {y y' : Nat → Option Value} : ∀ (ds : List (Nat × Tmp)) (a : Act), (∀ p, p ∈ ds → y p.1 = y' p.1) → putC y ds a = putC y' ds a
  | [], _, _ => rfl
  | p :: ds, a, h => by
    show putC y ds _ = putC y' ds _
    rw [h p (by simp)]
    exact putC_same ds _ (fun q hq => h q (by simp [hq]))
theorem putC_upd (y : Nat → Option Value) (v : Value) : ∀ (ds : List (Nat × Tmp)) (a : Act) (p : Nat × Tmp), p ∈ ds → (ds.map Prod.fst).Nodup → (ds.map Prod.snd).Nodup → (putC y ds a).put (some p.2) v = putC (updC y p.1 v) ds a
  | [], _, _, h, _, _ => by cases h
  | q :: ds, a, p, h, h1, h2 => by
    rw [List.map_cons, List.nodup_cons] at h1 h2
    rcases List.mem_cons.1 h with rfl | h
    · show (putC y ds (a.put (some p.2) ((y p.1).getD (a.eval (.tmp p.2))))).put (some p.2) v = putC (updC y p.1 v) ds (a.put (some p.2) ((updC y p.1 v p.1).getD (a.eval (.tmp p.2))))
      rw [updC_same, ← putC_put y ds _ p.2 v h2.1, put_twice]
      exact putC_same ds _ fun q hq => (updC_ne y v (fun e => h1.1 (by rw [← e]; exact List.mem_map_of_mem hq))).symm
    · have hne : q.1 ≠ p.1 := fun e => h1.1 (by rw [e]; exact List.mem_map_of_mem h)
      show (putC y ds (a.put (some q.2) ((y q.1).getD (a.eval (.tmp q.2))))).put (some p.2) v = putC (updC y p.1 v) ds (a.put (some q.2) ((updC y p.1 v q.1).getD (a.eval (.tmp q.2))))
      rw [updC_ne y v hne]
      exact putC_upd y v ds _ p h h1.2 h2.2
theorem listC_set (y : Nat → Option Value) : ∀ (ds : List (Nat × Tmp)) (l : Array Bool) (j : Nat), listC y ds (l.setIfInBounds j true) = (listC y ds l).setIfInBounds j true
  | [], _, _ => rfl
  | p :: ds, l, j => by
    show listC y ds (if (y p.1).isSome then (l.setIfInBounds j true).setIfInBounds p.1 true else l.setIfInBounds j true) = (listC y ds (if (y p.1).isSome then l.setIfInBounds p.1 true else l)).setIfInBounds j true
    rw [← listC_set y ds]
    by_cases hj : j = p.1
    · subst hj; split <;> simp
    · split
      · rw [Array.setIfInBounds_comm _ _ hj]
      · rfl
theorem listC_same {y y' : Nat → Option Value} : ∀ (ds : List (Nat × Tmp)) (l : Array Bool), (∀ p, p ∈ ds → y p.1 = y' p.1) → listC y ds l = listC y' ds l
  | [], _, _ => rfl
  | p :: ds, a, h => by
    show listC y ds _ = listC y' ds _
    rw [h p (by simp)]
    exact listC_same ds _ (fun q hq => h q (by simp [hq]))
theorem listC_upd (y : Nat → Option Value) (v : Value) : ∀ (ds : List (Nat × Tmp)) (l : Array Bool) (p : Nat × Tmp), p ∈ ds → (ds.map Prod.fst).Nodup → (listC y ds l).setIfInBounds p.1 true = listC (updC y p.1 v) ds l
  | [], _, _, h, _ => by cases h
  | q :: ds, l, p, h, h1 => by
    rw [List.map_cons, List.nodup_cons] at h1
    rcases List.mem_cons.1 h with rfl | h
    · show (listC y ds (if (y p.1).isSome then l.setIfInBounds p.1 true else l)).setIfInBounds p.1 true = listC (updC y p.1 v) ds (if (updC y p.1 v p.1).isSome then l.setIfInBounds p.1 true else l)
      rw [updC_same, ← listC_set y ds]
      have e : (if (y p.1).isSome then l.setIfInBounds p.1 true else l).setIfInBounds p.1 true = l.setIfInBounds p.1 true := by split <;> simp
      rw [e]
      exact listC_same ds _ fun q hq => (updC_ne y v (fun e => h1.1 (by rw [← e]; exact List.mem_map_of_mem hq))).symm
    · have hne : q.1 ≠ p.1 := fun e => h1.1 (by rw [e]; exact List.mem_map_of_mem h)
      show (listC y ds (if (y q.1).isSome then l.setIfInBounds q.1 true else l)).setIfInBounds p.1 true = listC (updC y p.1 v) ds (if (updC y p.1 v q.1).isSome then l.setIfInBounds q.1 true else l)
      rw [updC_ne y v hne]
      exact listC_upd y v ds _ p h h1.2

def subsC {α : Type} : List α → List (List α)
  | [] => [[]]
  | x :: l => subsC l ++ (subsC l).map (x :: ·)
theorem filter_subsC {α : Type} (f : α → Bool) : ∀ l : List α, l.filter f ∈ subsC l
  | [] => by simp [subsC]
  | x :: l => by
    have := filter_subsC f l
    rw [List.filter_cons]
    split <;> simp [subsC, this]
def setAll (l : Array Bool) : List (Nat × Tmp) → Array Bool
  | [] => l
  | p :: ds => setAll (l.setIfInBounds p.1 true) ds
theorem listC_filter (y : Nat → Option Value) : ∀ (ds : List (Nat × Tmp)) (l : Array Bool), listC y ds l = setAll l (ds.filter fun p => (y p.1).isSome)
  | [], _ => rfl
  | p :: ds, l => by
    show listC y ds (if (y p.1).isSome then l.setIfInBounds p.1 true else l) = _
    rw [listC_filter y ds, List.filter_cons]
    split <;> rfl
def readyC (md : Region.Mode) (ops : Array Oper) (ds : List (Nat × Tmp)) (l : Array Bool) : Bool :=
  (subsC ds).all fun s => s.length == ds.length || (let r := Region.ready md ops (setAll l s); !r.isEmpty && r.all fun i => ds.any fun p => p.1 == i && !s.contains p)

def leftC (y : Nat → Option Value) (ds : List (Nat × Tmp)) : Nat := (ds.filter fun p => !(y p.1).isSome).length
theorem leftC_zero {y : Nat → Option Value} {ds : List (Nat × Tmp)} (h : leftC y ds = 0) : ∀ p, p ∈ ds → (y p.1).isSome = true := by
  intro p hp
  have h1 : ds.filter (fun p => !(y p.1).isSome) = [] := List.eq_nil_of_length_eq_zero h
  rw [List.filter_eq_nil_iff] at h1
  have := h1 p hp
  cases hs : (y p.1).isSome with
  | true => rfl
  | false => rw [hs] at this; exact absurd rfl this
theorem leftC_upd {y : Nat → Option Value} (v : Value) : ∀ {ds : List (Nat × Tmp)} {p : Nat × Tmp}, p ∈ ds → (ds.map Prod.fst).Nodup → y p.1 = none → leftC y ds = leftC (updC y p.1 v) ds + 1
  | [], _, h, _, _ => by cases h
  | q :: ds, p, h, h1, hn => by
    rw [List.map_cons, List.nodup_cons] at h1
    rcases List.mem_cons.1 h with rfl | h
    · have e : leftC (updC y p.1 v) ds = leftC y ds := by
        unfold leftC
        congr 1
        refine List.filter_congr fun q hq => ?_
        rw [updC_ne y v (fun e => h1.1 (by rw [← e]; exact List.mem_map_of_mem hq))]
      unfold leftC at e ⊢
      rw [List.filter_cons, List.filter_cons, updC_same, hn]
      rw [if_pos (by rfl), if_neg (by simp), List.length_cons, e]
    · have hne : q.1 ≠ p.1 := fun e => h1.1 (by rw [e]; exact List.mem_map_of_mem h)
      have ih := leftC_upd v h h1.2 hn
      unfold leftC at ih ⊢
      rw [List.filter_cons, List.filter_cons, updC_ne y v hne]
      split
      · rw [List.length_cons, List.length_cons, ih]
      · exact ih

def closedB (md : Region.Mode) (ops : Array Oper) (ds s : List (Nat × Tmp)) : Bool :=
  s.all fun r => match ops[r.1]? with
    | none => true
    | some o => o.after.all fun e => !Region.binds md e || ds.all fun q => !(q.1 == e.on) || s.contains q
def Cls (md : Region.Mode) (ops : Array Oper) (ds : List (Nat × Tmp)) (y : Nat → Option Value) : Prop :=
  ∀ r, r ∈ ds → (y r.1).isSome = true → ∀ o, ops[r.1]? = some o → ∀ e, e ∈ o.after → Region.binds md e = true → ∀ q, q ∈ ds → q.1 = e.on → (y q.1).isSome = true
theorem Cls.closed {ds : List (Nat × Tmp)} {y : Nat → Option Value} (h : Cls md ops ds y) : closedB md ops ds (ds.filter fun p => (y p.1).isSome) = true := by
  unfold closedB
  rw [List.all_eq_true]
  intro r hr
  obtain ⟨hr1, hr2⟩ := List.mem_filter.1 hr
  cases ho : ops[r.1]? with
  | none => rfl
  | some o =>
    show (o.after.all fun e => !Region.binds md e || ds.all fun q => !(q.1 == e.on) || (ds.filter fun p => (y p.1).isSome).contains q) = true
    rw [Array.all_eq_true']
    intro e he
    cases hb : Region.binds md e with
    | false => rfl
    | true =>
      show (false || _) = true
      rw [Bool.false_or, List.all_eq_true]
      intro q hq
      by_cases e' : q.1 = e.on
      · have := h r hr1 hr2 o ho e he hb q hq e'
        rw [List.contains_iff_mem.2 (List.mem_filter.2 ⟨hq, this⟩), Bool.or_true]
      · rw [show (q.1 == e.on) = false from by simpa using e']; rfl
def readyF (md : Region.Mode) (ops : Array Oper) (ds : List (Nat × Tmp)) (fs : List Nat) (b : Nat) (l : Array Bool) : Bool :=
  (subsC ds).all fun s => s.length == ds.length || !closedB md ops ds s || (let r := Region.ready md ops (setAll l s); match fs.find? fun q => r.contains q with
    | some q => Region.free md ops (setAll l s) q && !(q == b) && ds.any fun p => p.1 == q
    | none => !r.isEmpty && r.all fun i => ds.any fun p => p.1 == i && !s.contains p)

theorem wpAnyB_cloudF (ds : List (Nat × Tmp)) (fs : List Nat) (I : (Nat → Option Value) → World → Prop) {fuel : Nat} {l : Array Bool} {a : Act}
    (h1 : (ds.map Prod.fst).Nodup) (h2 : (ds.map Prod.snd).Nodup) (hs : Region.noSelect ops = true) (hr : readyF md ops ds fs b l = true) (hQ : ∀ c a (d : Tmp) v w, Q (.panic c) (a.put (some d) v) w → Q (.panic c) a w) (hS : ∀ y w, I y w → S w)
    (hstep : ∀ p, p ∈ ds → ∀ y w, y p.1 = none → (∀ q, q ∈ ds → (y q.1).isSome = (listC y ds l).getD q.1 true) → p.1 ∈ Region.ready md ops (listC y ds l) → I y w →
      if fs.contains p.1 then ∃ o v, ops[p.1]? = some o ∧ o.dst = some p.2 ∧ Yields P ops o v (putC y ds a) ∧ I (updC y p.1 v) w
      else wpOp P ops Q p.1 (fun a' w' => ∃ v, a' = (putC y ds a).put (some p.2) v ∧ I (updC y p.1 v) w') (putC y ds a) w)
    (hl : ∀ q, q ∈ ds → l.getD q.1 true = false)
    (hend : ∀ y w, (∀ p, p ∈ ds → (y p.1).isSome = true) → I y w → wpAnyB P md ops Q b S fuel (setAll l ds) (putC y ds a) w) :
    ∀ (m : Nat) (y : Nat → Option Value) (w : World), leftC y ds = m → Cls md ops ds y → I y w → wpAnyB P md ops Q b S (fuel + m) (listC y ds l) (putC y ds a) w := by
  intro m
  induction m with
  | zero =>
    intro y w hm hcl hI
    have hall := leftC_zero hm
    have e : listC y ds l = setAll l ds := by rw [listC_filter, List.filter_eq_self.2 hall]
    rw [e]
    exact hend y w hall hI
  | succ m ih =>
    intro y w hm hcl hI
    have hsub := List.all_eq_true.1 hr _ (filter_subsC (fun p : Nat × Tmp => (y p.1).isSome) ds)
    have hlen : (ds.filter fun p => (y p.1).isSome).length ≠ ds.length := by
      intro he
      have h3 : ds.filter (fun p => (y p.1).isSome) = ds := by
        have := (List.filter_sublist (p := fun p : Nat × Tmp => (y p.1).isSome) (l := ds)).eq_of_length he
        exact this
      rw [List.filter_eq_self] at h3
      have h4 : leftC y ds = 0 := by
        unfold leftC
        rw [List.filter_eq_nil_iff.2 (fun p hp => by rw [h3 p hp]; simp)]; rfl
      omega
    rw [hcl.closed, Bool.or_eq_true, Bool.or_eq_true] at hsub
    rcases hsub with (hsub | hsub) | hsub
    · exact absurd (by simpa using hsub) hlen
    · cases hsub
    rw [← listC_filter] at hsub
    dsimp only at hsub
    have hlc : ∀ (ds' : List (Nat × Tmp)) (l' : Array Bool) (q : Nat × Tmp), (∀ r, r ∈ ds' → r.1 = q.1 → (y r.1).isSome = true → False) → l'.getD q.1 true = false → (listC y ds' l').getD q.1 true = false := by
      intro ds'
      induction ds' with
      | nil => intro l' q _ h; exact h
      | cons r ds' ih2 =>
        intro l' q hq h
        refine ih2 _ q (fun r' hr' => hq r' (by simp [hr'])) ?_
        by_cases hrs : (y r.1).isSome = true
        · rw [if_pos hrs, getD_set_ne true (fun e => hq r (by simp) e hrs)]
          exact h
        · rw [if_neg hrs]; exact h
    have hlt : ∀ (ds' : List (Nat × Tmp)) (l' : Array Bool) (q : Nat × Tmp), l'.getD q.1 true = true → (listC y ds' l').getD q.1 true = true := by
      intro ds'
      induction ds' with
      | nil => intro l' q h; exact h
      | cons r ds' ih2 =>
        intro l' q h
        refine ih2 _ q ?_
        split
        · by_cases e : r.1 = q.1
          · rw [e]; simp [Array.getElem?_setIfInBounds]; split <;> simp
          · rw [getD_set_ne true e]; exact h
        · exact h
    have hlg : ∀ (ds' : List (Nat × Tmp)) (l' : Array Bool) (q : Nat × Tmp), q ∈ ds' → (y q.1).isSome = true → (listC y ds' l').getD q.1 true = true := by
      intro ds'
      induction ds' with
      | nil => intro l' q h; cases h
      | cons r ds' ih2 =>
        intro l' q h hs
        rcases List.mem_cons.1 h with rfl | h
        · refine hlt ds' _ q ?_
          rw [if_pos hs]; simp [Array.getElem?_setIfInBounds]; split <;> simp
        · exact ih2 _ q h hs
    have hsome : ∀ q, q ∈ ds → (y q.1).isSome = (listC y ds l).getD q.1 true := by
      intro q hq
      cases hs : (y q.1).isSome with
      | true => rw [hlg ds l q hq hs]
      | false => rw [hlc ds l q (fun r _ he hs' => by rw [he, hs] at hs'; cases hs') (hl q hq)]
    have hnone : ∀ p, p ∈ ds → p.1 ∈ Region.ready md ops (listC y ds l) → y p.1 = none := by
      intro p hp hpr
      have h5 := (mem_ready.1 hpr).1
      rw [← hsome p hp] at h5
      cases hy : y p.1 with
      | none => rfl
      | some v => rw [hy] at h5; cases h5
    have hcls : ∀ (p : Nat × Tmp) (v : Value), p ∈ ds → p.1 ∈ Region.ready md ops (listC y ds l) → Cls md ops ds (updC y p.1 v) := by
      intro p v hp hpr r hr hrs o ho e he hb q hq hqe
      by_cases e1 : q.1 = p.1
      · rw [e1, updC_same]; rfl
      · rw [updC_ne y v e1]
        by_cases e2 : r.1 = p.1
        · obtain ⟨_, o', ho', hall⟩ := mem_ready.1 hpr
          rw [e2, ho'] at ho
          cases ho
          have h8 := hall e he hb
          rw [hsome q hq, hqe]
          rw [Array.getD_eq_getD_getElem?] at h8 ⊢
          cases hx : (listC y ds l)[e.on]? with
          | none => rw [hx] at h8; cases h8
          | some z => rw [hx] at h8; exact h8
        · rw [updC_ne y v e2] at hrs
          exact hcl r hr hrs o ho e he hb q hq hqe
    cases hf : fs.find? (fun q => (Region.ready md ops (listC y ds l)).contains q) with
    | some q =>
      rw [hf] at hsub
      simp only [Bool.and_eq_true, Bool.not_eq_true', beq_eq_false_iff_ne] at hsub
      obtain ⟨⟨hfree, hqb⟩, hin⟩ := hsub
      obtain ⟨p, hp, hpq⟩ := List.any_eq_true.1 hin
      have hpq' : p.1 = q := by simpa using hpq
      subst hpq'
      have hpr : p.1 ∈ Region.ready md ops (listC y ds l) := by have := List.find?_some hf; simpa using this
      have hpf : fs.contains p.1 = true := by have := List.mem_of_find?_eq_some hf; simpa using this
      have hyn := hnone p hp hpr
      have h6 := hstep p hp y w hyn hsome hpr hI
      rw [if_pos hpf] at h6
      obtain ⟨o, v, ho, hd, hY, hI'⟩ := h6
      refine wpAnyB_firstP ho (Region.noSelect_spec hs) (fun c a w h => hQ c a p.2 v w (by rw [hd] at h; exact h)) hqb (fuel + m) _ _ w (Region.free_spec ho hfree) hpr hY (fun _ => hS _ _ hI) ?_
      rw [hd, listC_upd y v ds l p hp h1, putC_upd y v ds a p hp h1 h2]
      exact ih _ w (by have := leftC_upd v hp h1 hyn; omega) (hcls p v hp hpr) hI'
    | none =>
      rw [hf] at hsub
      simp only [Bool.and_eq_true, Bool.not_eq_true', List.isEmpty_eq_false_iff] at hsub
      obtain ⟨hne, hin⟩ := hsub
      refine ⟨fun h0 => absurd h0 hne, fun i hi => ?_⟩
      have hi' := List.all_eq_true.1 hin i hi
      obtain ⟨p, hp, hpi⟩ := List.any_eq_true.1 hi'
      simp only [Bool.and_eq_true, beq_iff_eq, Bool.not_eq_true'] at hpi
      obtain ⟨rfl, hns⟩ := hpi
      have hyn := hnone p hp hi
      have hnf : ¬ fs.contains p.1 = true := by
        intro hc
        have h7 := List.find?_eq_none.1 hf p.1 (by simpa using hc)
        exact h7 (by simpa using hi)
      have h6 := hstep p hp y w hyn hsome hi hI
      rw [if_neg hnf] at h6
      refine wpOp_mono ?_ h6
      rintro a' w' ⟨v, rfl, hI'⟩
      refine ⟨fun _ => hS _ _ hI', ?_⟩
      rw [listC_upd y v ds l p hp h1, putC_upd y v ds a p hp h1 h2]
      exact ih _ w' (by have := leftC_upd v hp h1 hyn; omega) (hcls p v hp hi) hI'

structure OpW (P : Program) (o : Oper) (a : Act) (w : World) (K : Act → World → Prop) (Q : Exit → Act → World → Prop) : Prop where
  out : Oper.wp P o a w K Q
theorem wpOp_bare {i : Nat} (dst : Option Tmp) (op : Op) (ty : TypeId) {K : Act → World → Prop} {a : Act} {w : World} (hi : isBare ops i dst op ty)
    (h : ∀ K' : Act → World → Prop, RowKit.Hid (∀ a w, K a w → K' a w) → OpW P (bareOp dst op ty) a w K' Q) : wpOp P ops Q i K a w := by
  obtain ⟨o, ho, rfl, h1, h2, h3⟩ := hi
  refine wpOp_step ho (fun K' hK' => ?_)
  rw [if_pos (by simp [Region.wanted, h3])]
  have h4 := (h K' (Lib.hid hK')).out
  unfold Oper.wp at h4 ⊢
  rw [exec_bare (dst := o.dst) h1 h2]
  exact h4
theorem putC_none : ∀ (ds : List (Nat × Tmp)) (a : Act), putC (fun _ => none) ds a = a
  | [], _ => rfl
  | p :: ds, a => by
    show putC (fun _ => none) ds (a.put (some p.2) (a.eval (.tmp p.2))) = a
    have e : a.put (some p.2) (a.eval (.tmp p.2)) = a := by
      unfold Act.put Act.eval
      cases a with
      | mk tmps defers =>
        simp only
        congr 1
        apply Array.ext
        · simp
        · intro i hi1 hi2
          rw [Array.getElem_setIfInBounds]
          split
          · next e => subst e; simp [Array.getD, hi2]
          · rfl
    rw [e, putC_none ds a]
theorem listC_none : ∀ (ds : List (Nat × Tmp)) (l : Array Bool), listC (fun _ => none) ds l = l
  | [], _ => rfl
  | p :: ds, l => by
    show listC (fun _ => none) ds (if ((none : Option Value)).isSome then _ else l) = l
    rw [if_neg (by simp), listC_none ds l]
theorem leftC_none (ds : List (Nat × Tmp)) : leftC (fun _ => none) ds = ds.length := by
  show (ds.filter fun _ => true).length = ds.length
  rw [List.filter_eq_self.2 (fun p _ => rfl)]
theorem wpAnyB_cloud0 (ds : List (Nat × Tmp)) (fs : List Nat) (I : (Nat → Option Value) → World → Prop) {f fuel : Nat} {l : Array Bool} {a : Act} {w : World} (hf : f = fuel + ds.length)
    (h1 : (ds.map Prod.fst).Nodup) (h2 : (ds.map Prod.snd).Nodup) (hs : Region.noSelect ops = true) (hr : readyF md ops ds fs b l = true) (hl : (ds.all fun q => l.getD q.1 true == false) = true) (hQ : ∀ c a (d : Tmp) v w, Q (.panic c) (a.put (some d) v) w → Q (.panic c) a w) (hS : ∀ y w, I y w → S w)
    (hI : I (fun _ => none) w)
    (hstep : ∀ p, p ∈ ds → ∀ y w, y p.1 = none → (∀ q, q ∈ ds → (y q.1).isSome = (listC y ds l).getD q.1 true) → p.1 ∈ Region.ready md ops (listC y ds l) → I y w →
      if fs.contains p.1 then ∃ o v, ops[p.1]? = some o ∧ o.dst = some p.2 ∧ Yields P ops o v (putC y ds a) ∧ I (updC y p.1 v) w
      else wpOp P ops Q p.1 (fun a' w' => ∃ v, a' = (putC y ds a).put (some p.2) v ∧ I (updC y p.1 v) w') (putC y ds a) w)
    (hend : ∀ y w, (∀ p, p ∈ ds → (y p.1).isSome = true) → I y w → wpAnyB P md ops Q b S fuel (setAll l ds) (putC y ds a) w) : wpAnyB P md ops Q b S f l a w := by
  have h := wpAnyB_cloudF ds fs I h1 h2 hs hr hQ hS hstep (fun q hq => by simpa using List.all_eq_true.1 hl q hq) hend ds.length (fun _ => none) w (leftC_none ds) (fun r _ hrs => by cases hrs) hI
  rw [listC_none, putC_none] at h
  rw [hf]
  exact h
theorem yields_bare {i : Nat} {dst : Tmp} (op : Op) (ty : TypeId) {v : Value} {a : Act} {R : Value → Prop} (hi : isBare ops i (some dst) op ty) (h : ∀ w, (execOp a.eval (bareOp (some dst) op ty)).run P w = .ok (.value v) w) (hR : R v) :
    ∃ o u, ops[i]? = some o ∧ o.dst = some dst ∧ Yields P ops o u a ∧ R u := by
  obtain ⟨o, ho, hd, h1, h2, h3⟩ := hi
  exact ⟨o, v, ho, hd, .inl ⟨by simp [Region.wanted, h3], fun w => by rw [exec_bare (dst := some dst) h1 h2]; exact h w⟩, hR⟩
theorem takeF {fs : List Nat} {i : Nat} {A B : Prop} (h : fs.contains i = true) (hA : A) : if fs.contains i then A else B := by rw [if_pos h]; exact hA
theorem takeN {fs : List Nat} {i : Nat} {A B : Prop} (h : fs.contains i = false) (hB : B) : if fs.contains i then A else B := by rw [if_neg (by rw [h]; simp)]; exact hB
theorem ready_after {i j : Nat} {l : Array Bool} {o : Oper} (ho : ops[i]? = some o) (h : i ∈ Region.ready md ops l) (hj : (o.after.any fun e => Region.binds md e && e.on == j) = true) : l.getD j false = true := by
  obtain ⟨_, o', ho', hall⟩ := mem_ready.1 h
  rw [ho] at ho'
  cases ho'
  obtain ⟨e, he, hx⟩ := Array.any_eq_true'.1 hj
  simp only [Bool.and_eq_true, beq_iff_eq] at hx
  rw [← hx.2]
  exact hall e he hx.1
theorem depC {ds : List (Nat × Tmp)} {y : Nat → Option Value} {l : Array Bool} {i j : Nat} {d : Tmp} {o : Oper} (hy : ∀ q, q ∈ ds → (y q.1).isSome = (listC y ds l).getD q.1 true) (hq : (j, d) ∈ ds) (hrd : i ∈ Region.ready md ops (listC y ds l)) (ho : ops[i]? = some o)
    (hj : (o.after.any fun e => Region.binds md e && e.on == j) = true) : ∃ v, y j = some v := by
  have h1 := ready_after ho hrd hj
  have h2 := hy _ hq
  have h3 : (listC y ds l).getD j true = true := by
    rw [Array.getD_eq_getD_getElem?] at h1 ⊢
    cases he : (listC y ds l)[j]? with
    | none => rfl
    | some b => rw [he] at h1; exact h1
  rw [h3] at h2
  exact Option.isSome_iff_exists.1 h2
theorem eval_putC_not {y : Nat → Option Value} : ∀ (ds : List (Nat × Tmp)) (a : Act) (d : Tmp), d ∉ ds.map Prod.snd → (putC y ds a).eval (.tmp d) = a.eval (.tmp d)
  | [], _, _, _ => rfl
  | p :: ds, a, d, h => by
    show (putC y ds (a.put (some p.2) _)).eval (.tmp d) = _
    rw [eval_putC_not ds _ d (fun hm => h (by simp at hm ⊢; exact .inr hm)), eval_put_ne a _ (fun e => h (by simp [e]))]
theorem size_put (a : Act) (d : Option Tmp) (v : Value) : (a.put d v).tmps.size = a.tmps.size := by
  cases d <;> simp [Act.put]
theorem eval_put_same (a : Act) (d : Tmp) (v : Value) (h : d < a.tmps.size) : (a.put (some d) v).eval (.tmp d) = v := by
  simp [Act.put, Act.eval, h]
theorem eval_putC {y : Nat → Option Value} {j : Nat} {d : Tmp} {v : Value} : ∀ (ds : List (Nat × Tmp)) (a : Act), (j, d) ∈ ds → (ds.map Prod.snd).Nodup → y j = some v → d < a.tmps.size → (putC y ds a).eval (.tmp d) = v
  | [], _, h, _, _, _ => by cases h
  | p :: ds, a, h, hn, hv, hd => by
    rw [List.map_cons, List.nodup_cons] at hn
    rcases List.mem_cons.1 h with h | h
    · subst h
      show (putC y ds (a.put (some d) ((y j).getD (a.eval (.tmp d))))).eval (.tmp d) = v
      rw [eval_putC_not ds _ d hn.1, hv, eval_put_same _ _ _ hd]; rfl
    · exact eval_putC ds _ h hn.2 hv (by rw [size_put]; exact hd)
theorem wp_of_run {o : Oper} {a : Act} {w w' : World} {v : Value} {K : Act → World → Prop} (h : (execOp a.eval o).run P w = .ok (.value v) w') (hk : K (a.put o.dst v) w') : OpW P o a w K Q := by
  refine ⟨?_⟩
  unfold Oper.wp; rw [h]; exact hk
theorem wp_of_enter {o : Oper} {a : Act} {w w' : World} {f : FuncId} {args : Array Value} {R : Ending → World → Prop} {K : Act → World → Prop} (h : (execOp a.eval o).run P w = .ok (.enter f args) w') (hc : Calls P f args w' R)
    (hk : ∀ e w'', R e w'' → ∃ v, e = .returned v ∧ K (a.put o.dst v) w'') : OpW P o a w K Q := by
  refine ⟨?_⟩
  unfold Oper.wp
  rw [h, Oper.upon_enter]
  refine hc.mono fun e w'' hr => ?_
  obtain ⟨v, rfl, hK⟩ := hk e w'' hr
  exact hK
end
end Go.Proofs.YtlbldpkgnonbpaaDoor
