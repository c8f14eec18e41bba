/- The totals of votes: the program's. -/
import Derived.Test.YtembepajnigfiaaTotB
namespace Go.Proofs.Ytembepajnigfiaa
open Go.RowKit Num
set_option linter.unusedSimpArgs false
set_option linter.unusedVariables false

set_option maxRecDepth 100000 in
set_option maxHeartbeats 8000000 in
theorem tTotal_any {P Q G n er : Int} {a : Option Addr} {m c : Nat} {l : List Vt} {ps : List (Int × Int)} (w : World) (hP : 0 ≤ P) (hQ : 0 ≤ Q) (hG : 0 ≤ G) (nl : -9223372036854775808 ≤ n) (nu : n ≤ 9223372036854775807) (hl : ShV w a m l) (h20 : 256 < l.length ∨ ∀ V, V ∈ l → V.n ≤ 1000000) (hr : totF P Q G n l = (er, ps)) :
    Calls Try.prog 5 #[.agg #[.int .u64 P, .int .u64 Q, .int .u64 G], .int .i64 n, .slice a m c] w (RetTot w er ps) := by
  have HS := Lib.hid hl
  have HL := Lib.hid hl.len
  have H20 := Lib.hid h20
  clear hl h20
  have F_g := Lib.hid (show Boxed ((w.alloc (.cells #[.int .u64 P, .int .u64 Q, .int .u64 G] 24)).alloc (.cells #[.int .i64 n] 3)) w.heap.size P Q G from (Boxed.new w P Q G 24).alloc _)
  have HNC := Lib.hid (show ((w.alloc (.cells #[.int .u64 P, .int .u64 Q, .int .u64 G] 24)).alloc (.cells #[.int .i64 n] 3)).cell? ⟨w.heap.size + 1, 0, none⟩ = some (.int .i64 n) by simp [World.cell?_alloc_new])
  have HBW := Lib.hid (show Below w.heap.size w ((w.alloc (.cells #[.int .u64 P, .int .u64 Q, .int .u64 G] 24)).alloc (.cells #[.int .i64 n] 3)) from ((Below.refl _ _).alloc (Nat.le_refl _) _).alloc (by simp <;> omega) _)
  have HLT := Lib.hid (show w.heap.size + 1 < ((w.alloc (.cells #[.int .u64 P, .int .u64 Q, .int .u64 G] 24)).alloc (.cells #[.int .i64 n] 3)).heap.size by simp)
  by_cases hH : Has P Q G
  case neg =>
    rw [totF, if_neg hH] at hr
    cases hr
    go_enter Try.func5, Try.ntmps5
    obtain ⟨x0a, x0b, x0c, -⟩ := id F_g.out
    go_wp2_with fail
    clear x0a x0b x0c
    refine (form_any P Q G _ hP hQ hG).mono ?_
    rintro e w1 ⟨rfl, hb1⟩
    replace HBW := Lib.hid (HBW.out.trans (hb1.mono HBW.out.size))
    clear hb1
    rw [show formS P Q G = 300 from if_neg hH]
    go_wp2_with fail
    go_ret2
    exact ⟨none, 0, rfl, ShS.nil _ _, fun _ => rfl, HBW.out⟩
  case pos =>
    rw [totF, if_pos hH] at hr
    have hP1 : 1 < P := by have := hH.1; omega
    have PM := hH.2.1
    go_enter Try.func5, Try.ntmps5
    obtain ⟨x0a, x0b, x0c, -⟩ := id F_g.out
    go_wp2_with fail
    clear x0a x0b x0c
    refine (form_any P Q G _ hP hQ hG).mono ?_
    rintro e w1 ⟨rfl, hb1⟩
    replace HNC := Lib.hid ((hb1.cell (p := ⟨w.heap.size + 1, 0, none⟩) HLT.out).trans HNC.out)
    replace HLT := Lib.hid (Nat.lt_of_lt_of_le HLT.out hb1.size)
    replace F_g := Lib.hid (F_g.out.keep hb1)
    replace HBW := Lib.hid (HBW.out.trans (hb1.mono HBW.out.size))
    clear hb1
    rw [show formS P Q G = 0 from if_pos hH]
    have n0 := HNC.out
    by_cases h1 : n < 1
    case pos =>
      rw [if_pos (.inl h1)] at hr
      cases hr
      have d1 : decide (n < 1) = true := by simpa using h1
      go_wp2_with fail
      go_ret2
      exact ⟨none, 0, rfl, ShS.nil _ _, fun _ => rfl, HBW.out⟩
    case neg =>
      have d1 : decide (n < 1) = false := by simpa using h1
      by_cases h2 : 10 < n
      case pos =>
        rw [if_pos (.inr h2)] at hr
        cases hr
        have d2 : decide (10 < n) = true := by simpa using h2
        go_wp2_with fail
        go_ret2
        exact ⟨none, 0, rfl, ShS.nil _ _, fun _ => rfl, HBW.out⟩
      case neg =>
        have d2 : decide (10 < n) = false := by simpa using h2
        rw [if_neg (by omega)] at hr
        by_cases h3 : 256 < l.length
        case pos =>
          rw [if_pos h3] at hr
          cases hr
          have d3 : decide ((256 : Int) < (m : Int)) = true := by have := HL.out; simp; omega
          clear h3
          go_wp2_with fail
          go_ret2
          exact ⟨none, 0, rfl, ShS.nil _ _, fun _ => rfl, HBW.out⟩
        case neg =>
          rw [if_neg h3] at hr
          have d3 : decide ((256 : Int) < (m : Int)) = false := by have := HL.out; simp; omega
          have hm2 : m ≤ 256 := by have := HL.out; omega
          have HV20 := Lib.hid (H20.out.resolve_left h3)
          have HR := Lib.hid hr
          clear h3 hr
          go_wp2_with fail
          clear n0
          refine (totContains_any _ F_g.out HNC.out HLT.out (HS.out.keep HBW.out) (by omega) HV20.out).mono ?_
          rintro e w2 ⟨rfl, hb2⟩
          replace HNC := Lib.hid ((hb2.cell (p := ⟨w.heap.size + 1, 0, none⟩) HLT.out).trans HNC.out)
          replace HLT := Lib.hid (Nat.lt_of_lt_of_le HLT.out hb2.size)
          replace F_g := Lib.hid (F_g.out.keep hb2)
          replace HBW := Lib.hid (HBW.out.trans (hb2.mono HBW.out.size))
          clear hb2
          cases ho : l.any (oddS P n) with
          | true =>
            have hr := HR.out
            rw [if_pos ho] at hr
            cases hr
            clear ho
            go_wp2_with fail
            go_ret2
            exact ⟨none, 0, rfl, ShS.nil _ _, fun _ => rfl, HBW.out⟩
          | false =>
            have hr := HR.out
            rw [if_neg (by rw [ho]; simp)] at hr
            obtain ⟨rfl, rfl⟩ := Prod.mk.inj hr
            clear hr HR
            obtain ⟨k, rfl⟩ : ∃ k : Nat, n = (k : Int) := ⟨n.toNat, by omega⟩
            have HKN := Lib.hid (show ((k : Int)).toNat = k by omega)
            have k1 : 1 ≤ k := by omega
            have k10 : k ≤ 10 := by omega
            have HO := Lib.hid (show ∀ V, V ∈ l → V.n = k ∧ okS P V.bs = true from fun V hV => by
              have := List.any_eq_false.1 ho V hV
              simp [oddS] at this
              exact ⟨by omega, this.2⟩)
            clear ho h1 h2 d1 d2 d3
            obtain ⟨i0, hi, hz0, hz1, hz2⟩ := info_parts (P := Try.prog) (e := 45) (z := .agg #[.int .u64 0, .int .u64 0]) (size := 2) (bytes := 16) (by kernel_rfl)
            have n0 := HNC.out
            go_wp2_with (at_make; refine wpList_make_full _ rfl _ _ 27 rfl (w.heap.size + 1 + 1) 45 i0 (.agg #[.int .u64 0, .int .u64 0]) 2 Try.underlying27 hi hz0 hz1 _ _ _ _ k rfl rfl rfl rfl (by rw [hz2]; omega) (by unfold maxLen; omega) (Nat.succ_le_of_lt HLT.out) ?_; intro w5 hown hgr; have HOWN := Lib.hid hown; have HGR := Lib.hid hgr; clear hown hgr)
            have hb5 := Below.rowT (n := w2.heap.size) HGR.out (fun j hj => by cases hj) (Nat.le_refl _)
            have F_o := Lib.hid (OwnP.made HOWN.out)
            replace F_g := Lib.hid (F_g.out.keep hb5)
            have h2w := HLT.out
            replace HBW := Lib.hid (HBW.out.trans (hb5.mono HBW.out.size))
            clear hb5 HOWN HGR hi hz0 hz1 hz2 i0 n0 HNC
            generalize w2.heap.size = go at F_o h2w ⊢
            go_loopw [36] (fun c36 wr => ∃ i : Nat, i ≤ k ∧ c36 = .int .i64 i ∧ ∃ os : List (Int × Int), Hid (∀ t, t < i → os.getD t (0, 0) = allP P (colS l t)) ∧ Hid (OwnP wr (w.heap.size + 1 + 1) go k k os) ∧ Hid (Boxed wr w.heap.size P Q G) ∧ Hid (Below w.heap.size w wr)) (fun c36 _ => k - (intOf c36).toNat)
            case atStart => exact ⟨0, Nat.zero_le _, rfl, _, (fun t ht => absurd ht (by omega)), F_o.out, F_g.out, HBW.out⟩
            case round =>
              clear F_o F_g HBW
              obtain ⟨i, hi, rfl, os, HA, F_o, F_g, HBW⟩ := hrel
              have hi0 : (0 : Int) ≤ (i : Int) := by omega
              by_cases hlt : i < k
              case neg =>
                have hik : i = k := by omega
                have HZ := Lib.hid (show os = totS P ((k : Int)).toNat l by
                  rw [HKN.out]
                  apply List.ext_getElem (by rw [F_o.out.len]; simp [totS])
                  intro t h1 h2
                  have h3 : t < k := by rw [F_o.out.len] at h1; exact h1
                  have := HA.out t (by omega)
                  rw [getD_atT h1] at this
                  rw [this]; simp [totS])
                have HLE := Lib.hid (show (totS P ((k : Int)).toNat l).length = k by simp [totS])
                clear hik
                go_wp2_with fail
                go_ret2
                refine ⟨some ⟨go, 0, none⟩, k, by rw [HLE.out]; rfl, ?_, (fun h => by cases h), HBW.out⟩
                rw [HLE.out, ← HZ.out]; exact F_o.out.shS
              case pos =>
                have hi1 : (i : Int) < (k : Int) := by omega
                have hwi : IntKind.i64.wrap ((i : Int) + 1) = (i : Int) + 1 := IntWalk.i64_in _ (by omega)
                have cS : Try.prog.cellsOf 45 = 2 := by kernel_rfl
                obtain ⟨o0, o1⟩ := F_o.out.at hlt
                have fz0 := F_o.out.fz (i * 2)
                have fz1 := F_o.out.fz (i * 2 + 1)
                have hgl := F_o.out.lt.2
                go_wp2_with fail
                clear o0 o1 fz0 fz1
                replace HBW := Lib.hid ((HBW.out.setCell (p := ⟨go, i * 2, none⟩) (by show w.heap.size ≤ go; omega) (.int .u64 1)).setCell (p := ⟨go, i * 2 + 1, none⟩) (by show w.heap.size ≤ go; omega) (.int .u64 1))
                replace F_g := Lib.hid ((F_g.out.far (c := go) (o := i * 2) (by omega) (.int .u64 1)).far (c := go) (o := i * 2 + 1) (by omega) (.int .u64 1))
                replace F_o := Lib.hid (F_o.out.set (k := i) 1 1)
                go_wp2_with fail
                go_loopw [45] (fun c45 wq => ∃ j : Nat, j ≤ m ∧ c45 = .int .i64 j ∧ ∃ o2 : List (Int × Int), Hid (∀ t, t < i → o2.getD t (0, 0) = allP P (colS l t)) ∧ Hid (o2.getD i (0, 0) = allP P (colS (l.take j) i)) ∧ Hid (OwnP wq (w.heap.size + 1 + 1) go k k o2) ∧ Hid (Boxed wq w.heap.size P Q G) ∧ Hid (Below w.heap.size w wq)) (fun c45 _ => m - (intOf c45).toNat)
                case atStart => exact ⟨0, Nat.zero_le _, rfl, _, (fun t ht => by have := F_o.out.len; rw [List.length_set] at this; rw [getD_setT (by omega), if_neg (by omega)]; exact HA.out t ht), (show (os.set i (1, 1)).getD i (0, 0) = allP P (colS (l.take 0) i) by have := F_o.out.len; rw [List.length_set] at this; rw [getD_setT (by omega), if_pos rfl]; rfl), F_o.out, F_g.out, HBW.out⟩
                case round =>
                  clear F_o F_g HBW HA hgl
                  obtain ⟨j, hj, rfl, o2, HA, HI, F_o, F_g, HBW⟩ := hrel
                  have hj0 : (0 : Int) ≤ (j : Int) := by omega
                  by_cases hjm : j < m
                  case neg =>
                    have hjn : j = m := by omega
                    have HA2 := Lib.hid (show ∀ t, t < i + 1 → o2.getD t (0, 0) = allP P (colS l t) from fun t ht => by
                      by_cases e : t < i
                      · exact HA.out t e
                      · obtain rfl : t = i := by omega
                        have := HI.out
                        rwa [List.take_of_length_le (by have := HL.out; omega)] at this)
                    clear hjn
                    go_wp2_with fail
                    go_roundw
                    case rel => exact ⟨i + 1, by omega, by go_num, o2, HA2.out, F_o.out, F_g.out, HBW.out⟩
                    case measure => simp [intOf] <;> omega
                  case pos =>
                    have hj1 : (j : Int) < (m : Int) := by omega
                    have hwj : IntKind.i64.wrap ((j : Int) + 1) = (j : Int) + 1 := IntWalk.i64_in _ (by omega)
                    have c26 : Try.prog.cellsOf 33 = 11 := by kernel_rfl
                    obtain ⟨s, o, V, hsa, hV, hc, hin⟩ := (HS.out.keep HBW.out).at j hjm
                    have HV := Lib.hid hV
                    have HIN := Lib.hid hin
                    obtain ⟨hVn, hVo⟩ := HO.out V (List.mem_of_getElem? hV)
                    obtain ⟨p, q, hpq⟩ : ∃ p q, allP P (colS (l.take j) i) = (p, q) := ⟨_, _, rfl⟩
                    obtain ⟨u, v, huv⟩ : ∃ u v, V.bs.getD i (0, 0) = (u, v) := ⟨_, _, rfl⟩
                    obtain ⟨p0, pP, q0, qP⟩ := show 0 ≤ p ∧ p < P ∧ 0 ≤ q ∧ q < P by have := allP_rng hP1 (colS (l.take j) i); rw [hpq] at this; exact this
                    have hbl : i < V.bs.length := by have := hin.h1.len; omega
                    have hm2 := List.mem_iff_getElem.2 ⟨i, hbl, rfl⟩
                    obtain ⟨⟨u0, u1⟩, ⟨v0, v1⟩⟩ := hin.u1 _ hm2
                    obtain ⟨uP, vP⟩ := okS_mem hVo hm2
                    have hge : V.bs[i] = (u, v) := by rw [← huv, getD_atT hbl]
                    rw [hge] at u0 u1 v0 v1 uP vP
                    obtain ⟨x, hx⟩ : ∃ x, p * u % P = x := ⟨_, rfl⟩
                    obtain ⟨y, hy⟩ : ∃ y, q * v % P = y := ⟨_, rfl⟩
                    have HST := Lib.hid (show allP P (colS (l.take (j + 1)) i) = (x, y) by rw [tot_step hV hpq huv, hx, hy])
                    have HX := Lib.hid hx
                    have HY := Lib.hid hy
                    obtain ⟨sb, ob, hsb, hsbl, b0, b1⟩ := hin.h1.at i (by omega)
                    rw [huv] at b0 b1
                    simp only at b0 b1 u0 u1 v0 v1 uP vP
                    have HPQ := Lib.hid (show o2.getD i (0, 0) = (p, q) by rw [HI.out, hpq])
                    obtain ⟨-, hc0, hc1, hc2, hc3, hc4, hc5, hc6, hc7, hc8, hc9, hc10⟩ := hc
                    subst hsa
                    clear hV hin hm2 hge hpq huv hx hy hVo
                    obtain ⟨Va, Vn, Vc, Vbs, Vb, Vm, Vd, Vps, Vone, Vz⟩ := V
                    simp only at hsb hVn hc0 hc1 hc2 hc3 hc4 hc5 hc6 hc7 hc8 hc9 hc10 hbl HIN
                    subst hsb hVn
                    go_wp2_with fail
                    clear hc0 hc1 hc2 hc3 hc4 hc5 hc6 hc7 hc8 hc9 hc10
                    have F_v := Lib.hid (show VBox (wr.alloc (.cells #[.slice (some ⟨sb, ob, none⟩) Vn Vc, .slice Vb Vm Vd, .bool Vone, .int .u64 Vz.r0, .int .u64 Vz.r1, .int .u64 Vz.s0, .int .u64 Vz.s1, .int .u64 Vz.c0, .int .u64 Vz.c1, .int .u64 Vz.z0, .int .u64 Vz.z1] 33)) wr.heap.size ⟨some ⟨sb, ob, none⟩, Vn, Vc, Vbs, Vb, Vm, Vd, Vps, Vone, Vz⟩ from VBox.at wr ⟨some ⟨sb, ob, none⟩, Vn, Vc, Vbs, Vb, Vm, Vd, Vps, Vone, Vz⟩ 33 wr.heap.size rfl)
                    have F_b := Lib.hid (show CPair (wr.alloc (.cells #[.slice (some ⟨sb, ob, none⟩) Vn Vc, .slice Vb Vm Vd, .bool Vone, .int .u64 Vz.r0, .int .u64 Vz.r1, .int .u64 Vz.s0, .int .u64 Vz.s1, .int .u64 Vz.c0, .int .u64 Vz.c1, .int .u64 Vz.z0, .int .u64 Vz.z1] 33)) sb ob i u v from (CPair.mk hsbl ⟨b0, b1⟩).alloc _)
                    replace F_g := Lib.hid (F_g.out.alloc (.cells #[.slice (some ⟨sb, ob, none⟩) Vn Vc, .slice Vb Vm Vd, .bool Vone, .int .u64 Vz.r0, .int .u64 Vz.r1, .int .u64 Vz.s0, .int .u64 Vz.s1, .int .u64 Vz.c0, .int .u64 Vz.c1, .int .u64 Vz.z0, .int .u64 Vz.z1] 33))
                    replace F_o := Lib.hid (F_o.out.alloc (.cells #[.slice (some ⟨sb, ob, none⟩) Vn Vc, .slice Vb Vm Vd, .bool Vone, .int .u64 Vz.r0, .int .u64 Vz.r1, .int .u64 Vz.s0, .int .u64 Vz.s1, .int .u64 Vz.c0, .int .u64 Vz.c1, .int .u64 Vz.z0, .int .u64 Vz.z1] 33))
                    replace HBW := Lib.hid (HBW.out.alloc HBW.out.size (.cells #[.slice (some ⟨sb, ob, none⟩) Vn Vc, .slice Vb Vm Vd, .bool Vone, .int .u64 Vz.r0, .int .u64 Vz.r1, .int .u64 Vz.s0, .int .u64 Vz.s1, .int .u64 Vz.c0, .int .u64 Vz.c1, .int .u64 Vz.z0, .int .u64 Vz.z1] 33))
                    clear b0 b1 hsbl
                    replace F_g := Lib.hid F_g.out.drew
                    replace F_o := Lib.hid F_o.out.drew
                    replace F_v := Lib.hid F_v.out.drew
                    replace F_b := Lib.hid F_b.out.drew
                    replace HBW := Lib.hid HBW.out.drew
                    have hS := And.intro F_g.out.s (And.intro (own_at HPQ.out F_o.out hlt) (And.intro F_v.out.c0 F_b.out.c))
                    refine wp_region_stage 17 (fun w' => SBox w' w.heap.size P Q G ∧ (w'.cell? ⟨go, i * 2, none⟩ = some (.int .u64 p) ∧ w'.cell? ⟨go, i * 2 + 1, none⟩ = some (.int .u64 q)) ∧ w'.cell? ⟨wr.heap.size, 0, none⟩ = some (.slice (some ⟨sb, ob, none⟩) Vn Vc) ∧ SCells w' sb ob i u v) (by kernel_rfl) ?_
                    refine wpAnyB_takeP (i := 0) (some 50) (Op.move (Operand.tmp 10)) 27 (v := ?_) ⟨_, rfl, rfl, rfl, rfl, rfl⟩ (by kernel_rfl) (by kernel_rfl) (by kernel_rfl) (by kernel_rfl) (fun _ _ _ h => h) (fun _ => hS) (fun w' => ?_) ?_
                    rotate_left
                    · unfold bareOp
                      go_simp
                      try with_reducible rfl
                    simp only [Act.put, List.setIfInBounds_toArray, List.set_cons_zero, List.set_cons_succ]
                    refine wpAnyB_takeP (i := 1) (some 51) (Op.move (Operand.tmp 11)) 3 (v := ?_) ⟨_, rfl, rfl, rfl, rfl, rfl⟩ (by kernel_rfl) (by kernel_rfl) (by kernel_rfl) (by kernel_rfl) (fun _ _ _ h => h) (fun _ => hS) (fun w' => ?_) ?_
                    rotate_left
                    · unfold bareOp
                      go_simp
                      try with_reducible rfl
                    simp only [Act.put, List.setIfInBounds_toArray, List.set_cons_zero, List.set_cons_succ]
                    refine wpAnyB_take (i := 2) (some 52) (Op.load 24 (Operand.tmp 3)) 24 (v := ?_) ⟨_, rfl, rfl, rfl, rfl, rfl⟩ (by kernel_rfl) (by kernel_rfl) (by kernel_rfl) [12, 13, 14, 16, 17] (by kernel_rfl) (fun _ _ _ h => h) hS (fun w' hSw => ?_) ?_
                    rotate_left
                    · obtain ⟨⟨b0, b1, b2⟩, ⟨b3, b4⟩, b5, ⟨b6, b7⟩⟩ := hSw
                      unfold bareOp
                      go_simp
                      try with_reducible rfl
                    simp only [Act.put, List.setIfInBounds_toArray, List.set_cons_zero, List.set_cons_succ]
                    refine wpAnyB_takeP (i := 3) (some 53) (Op.move (Operand.tmp 10)) 27 (v := ?_) ⟨_, rfl, rfl, rfl, rfl, rfl⟩ (by kernel_rfl) (by kernel_rfl) (by kernel_rfl) (by kernel_rfl) (fun _ _ _ h => h) (fun _ => hS) (fun w' => ?_) ?_
                    rotate_left
                    · unfold bareOp
                      go_simp
                      try with_reducible rfl
                    simp only [Act.put, List.setIfInBounds_toArray, List.set_cons_zero, List.set_cons_succ]
                    refine wpAnyB_takeP (i := 4) (some 54) (Op.move (Operand.tmp 11)) 3 (v := ?_) ⟨_, rfl, rfl, rfl, rfl, rfl⟩ (by kernel_rfl) (by kernel_rfl) (by kernel_rfl) (by kernel_rfl) (fun _ _ _ h => h) (fun _ => hS) (fun w' => ?_) ?_
                    rotate_left
                    · unfold bareOp
                      go_simp
                      try with_reducible rfl
                    simp only [Act.put, List.setIfInBounds_toArray, List.set_cons_zero, List.set_cons_succ]
                    refine wpAnyB_takeP (i := 5) (some 55) (Op.indexAddr 27 (Operand.tmp 53) (Operand.tmp 54)) 0 (v := ?_) ⟨_, rfl, rfl, rfl, rfl, rfl⟩ (by kernel_rfl) (by kernel_rfl) (by kernel_rfl) (by kernel_rfl) (fun _ _ _ h => h) (fun _ => hS) (fun w' => ?_) ?_
                    rotate_left
                    · unfold bareOp
                      go_simp
                      try with_reducible rfl
                    simp only [Act.put, List.setIfInBounds_toArray, List.set_cons_zero, List.set_cons_succ]
                    refine wpAnyB_take (i := 6) (some 56) (Op.load 45 (Operand.tmp 55)) 45 (v := ?_) ⟨_, rfl, rfl, rfl, rfl, rfl⟩ (by kernel_rfl) (by kernel_rfl) (by kernel_rfl) [12, 13, 14, 16, 17] (by kernel_rfl) (fun _ _ _ h => h) hS (fun w' hSw => ?_) ?_
                    rotate_left
                    · obtain ⟨⟨b0, b1, b2⟩, ⟨b3, b4⟩, b5, ⟨b6, b7⟩⟩ := hSw
                      unfold bareOp
                      go_simp
                      try with_reducible rfl
                    simp only [Act.put, List.setIfInBounds_toArray, List.set_cons_zero, List.set_cons_succ]
                    refine wpAnyB_takeP (i := 7) (some 57) (Op.fieldAddr 33 (Operand.tmp 13) 0) 0 (v := ?_) ⟨_, rfl, rfl, rfl, rfl, rfl⟩ (by kernel_rfl) (by kernel_rfl) (by kernel_rfl) (by kernel_rfl) (fun _ _ _ h => h) (fun _ => hS) (fun w' => ?_) ?_
                    rotate_left
                    · unfold bareOp
                      go_simp
                      try with_reducible rfl
                    simp only [Act.put, List.setIfInBounds_toArray, List.set_cons_zero, List.set_cons_succ]
                    refine wpAnyB_take (i := 8) (some 58) (Op.load 27 (Operand.tmp 57)) 27 (v := ?_) ⟨_, rfl, rfl, rfl, rfl, rfl⟩ (by kernel_rfl) (by kernel_rfl) (by kernel_rfl) [10, 11, 12, 13, 14, 16, 17] (by kernel_rfl) (fun _ _ _ h => h) hS (fun w' hSw => ?_) ?_
                    rotate_left
                    · obtain ⟨⟨b0, b1, b2⟩, ⟨b3, b4⟩, b5, ⟨b6, b7⟩⟩ := hSw
                      unfold bareOp
                      go_simp
                      try with_reducible rfl
                    simp only [Act.put, List.setIfInBounds_toArray, List.set_cons_zero, List.set_cons_succ]
                    refine wpAnyB_takeP (i := 9) (some 59) (Op.move (Operand.tmp 11)) 3 (v := ?_) ⟨_, rfl, rfl, rfl, rfl, rfl⟩ (by kernel_rfl) (by kernel_rfl) (by kernel_rfl) (by kernel_rfl) (fun _ _ _ h => h) (fun _ => hS) (fun w' => ?_) ?_
                    rotate_left
                    · unfold bareOp
                      go_simp
                      try with_reducible rfl
                    simp only [Act.put, List.setIfInBounds_toArray, List.set_cons_zero, List.set_cons_succ]
                    refine wpAnyB_takeP (i := 10) (some 60) (Op.indexAddr 27 (Operand.tmp 58) (Operand.tmp 59)) 0 (v := ?_) ⟨_, rfl, rfl, rfl, rfl, rfl⟩ (by kernel_rfl) (by kernel_rfl) (by kernel_rfl) (by kernel_rfl) (fun _ _ _ h => h) (fun _ => hS) (fun w' => ?_) ?_
                    rotate_left
                    · unfold bareOp
                      go_simp
                      try with_reducible rfl
                    simp only [Act.put, List.setIfInBounds_toArray, List.set_cons_zero, List.set_cons_succ]
                    refine wpAnyB_take (i := 11) (some 61) (Op.load 45 (Operand.tmp 60)) 45 (v := ?_) ⟨_, rfl, rfl, rfl, rfl, rfl⟩ (by kernel_rfl) (by kernel_rfl) (by kernel_rfl) [12, 13, 14, 16, 17] (by kernel_rfl) (fun _ _ _ h => h) hS (fun w' hSw => ?_) ?_
                    rotate_left
                    · obtain ⟨⟨b0, b1, b2⟩, ⟨b3, b4⟩, b5, ⟨b6, b7⟩⟩ := hSw
                      unfold bareOp
                      go_simp
                      try with_reducible rfl
                    simp only [Act.put, List.setIfInBounds_toArray, List.set_cons_zero, List.set_cons_succ]
                    refine wpAnyB_only (i := 12) (some 62) (Op.call { callee := Callee.value (Operand.func 12), args := #[Operand.tmp 52, Operand.tmp 56, Operand.tmp 61], argTypes := #[24, 45, 45] }) 46 ⟨_, rfl, rfl, rfl, rfl, rfl⟩ (by kernel_rfl) (fun K hK => ?_)
                    unfold bareOp
                    go_wp2_with (go_at_call 12; refine (eAdd_ok _ hH p0 pP q0 qP u0 uP v0 vP HX.out HY.out).mono ?_; rintro e w8 ⟨rfl, hb8⟩)
                    replace F_g := Lib.hid (F_g.out.keep hb8)
                    replace F_o := Lib.hid (F_o.out.keep hb8)
                    replace F_v := Lib.hid (F_v.out.keep hb8)
                    replace F_b := Lib.hid (F_b.out.keep hb8)
                    replace HBW := Lib.hid (HBW.out.trans (hb8.mono HBW.out.size))
                    replace hS := And.intro F_g.out.s (And.intro (own_at HPQ.out F_o.out hlt) (And.intro F_v.out.c0 F_b.out.c))
                    clear hb8
                    refine hK.out _ _ (fun _ => hS) ?_
                    clear hK K
                    try simp only [Act.put, List.setIfInBounds_toArray, List.set_cons_zero, List.set_cons_succ]
                    refine wpAnyB_takeP (i := 13) (some 49) (Op.move (Operand.tmp 62)) 46 (v := ?_) ⟨_, rfl, rfl, rfl, rfl, rfl⟩ (by kernel_rfl) (by kernel_rfl) (by kernel_rfl) (by kernel_rfl) (fun _ _ _ h => h) (fun _ => hS) (fun w' => ?_) ?_
                    rotate_left
                    · unfold bareOp
                      go_simp
                      try with_reducible rfl
                    simp only [Act.put, List.setIfInBounds_toArray, List.set_cons_zero, List.set_cons_succ]
                    refine wpAnyB_takeP (i := 14) (some 63) (Op.extract (Operand.tmp 49) 0) 45 (v := ?_) ⟨_, rfl, rfl, rfl, rfl, rfl⟩ (by kernel_rfl) (by kernel_rfl) (by kernel_rfl) (by kernel_rfl) (fun _ _ _ h => h) (fun _ => hS) (fun w' => ?_) ?_
                    rotate_left
                    · unfold bareOp
                      go_simp
                      try with_reducible rfl
                    simp only [Act.put, List.setIfInBounds_toArray, List.set_cons_zero, List.set_cons_succ]
                    refine wpAnyB_takeP (i := 15) (some 64) (Op.extract (Operand.tmp 49) 1) 34 (v := ?_) ⟨_, rfl, rfl, rfl, rfl, rfl⟩ (by kernel_rfl) (by kernel_rfl) (by kernel_rfl) (by kernel_rfl) (fun _ _ _ h => h) (fun _ => hS) (fun w' => ?_) ?_
                    rotate_left
                    · unfold bareOp
                      go_simp
                      try with_reducible rfl
                    simp only [Act.put, List.setIfInBounds_toArray, List.set_cons_zero, List.set_cons_succ]
                    refine wpAnyB_takeP (i := 16) (some 65) (Op.indexAddr 27 (Operand.tmp 50) (Operand.tmp 51)) 0 (v := ?_) ⟨_, rfl, rfl, rfl, rfl, rfl⟩ (by kernel_rfl) (by kernel_rfl) (by kernel_rfl) (by kernel_rfl) (fun _ _ _ h => h) (fun _ => hS) (fun w' => ?_) ?_
                    rotate_left
                    · unfold bareOp
                      go_simp
                      try with_reducible rfl
                    simp only [Act.put, List.setIfInBounds_toArray, List.set_cons_zero, List.set_cons_succ]
                    refine wpAnyB_only (i := 17) none (Op.store 45 (Operand.tmp 65) (Operand.tmp 63)) 0 ⟨_, rfl, rfl, rfl, rfl, rfl⟩ (by kernel_rfl) (fun K hK => ?_)
                    unfold bareOp
                    obtain ⟨z0, z1⟩ := own_at HPQ.out F_o.out hlt
                    have fz0 := F_o.out.fz (i * 2)
                    have fz1 := F_o.out.fz (i * 2 + 1)
                    have hgl := F_o.out.lt.2
                    go_wp2_with fail
                    refine hK.out _ _ (fun h => absurd (h.symm.trans (by kernel_rfl : _ = true)) (by decide)) ?_
                    clear hK K
                    try simp only [Act.put, List.setIfInBounds_toArray, List.set_cons_zero, List.set_cons_succ]
                    refine wpAnyB_done (by kernel_rfl) ?_ _
                    clear hS z0 z1 fz0 fz1
                    have hlo : i < o2.length := by have := F_o.out.len; omega
                    have HA2 := Lib.hid (show ∀ t, t < i → (o2.set i (x, y)).getD t (0, 0) = allP P (colS l t) from fun t ht => by rw [getD_setT hlo, if_neg (by omega)]; exact HA.out t ht)
                    have HI2 := Lib.hid (show (o2.set i (x, y)).getD i (0, 0) = allP P (colS (l.take (j + 1)) i) by rw [getD_setT hlo, if_pos rfl, HST.out])
                    go_wp2_with fail
                    go_roundw
                    case rel => exact ⟨j + 1, by omega, by go_num, o2.set i (x, y), HA2.out, HI2.out, F_o.out.set x y, (F_g.out.far (c := go) (o := i * 2) (by omega) (.int .u64 x)).far (c := go) (o := i * 2 + 1) (by omega) (.int .u64 y), (HBW.out.setCell (p := ⟨go, i * 2, none⟩) (by show w.heap.size ≤ go; omega) (.int .u64 x)).setCell (p := ⟨go, i * 2 + 1, none⟩) (by show w.heap.size ≤ go; omega) (.int .u64 y)⟩
                    case measure => simp [intOf] <;> omega
end Go.Proofs.Ytembepajnigfiaa
