/- ShamirFits: the statement: for every input the law returns true, and the arguments read as before. -/
import Derived.Test.YtjfaaicbojnpaaaDealB
import Derived.Test.YtjfaaicbojnpaaaRows
namespace Go.Proofs.Ytjfaaicbojnpaaa.lawFits
open Go.ChangeShapes Go.WideShapes Go.ChangeAt Go.RowKit Num
set_option linter.unusedSimpArgs false
set_option linter.unusedVariables false

set_option maxRecDepth 100000 in
set_option maxHeartbeats 12800000 in
theorem walk (P Q G : Int) (a : Option Addr) (n c : Nat) (xs : List Int) (t i s : Int) (w : World) (uP : U64 P) (uQ : U64 Q) (uG : U64 G) (hS : ShI .u64 w a n xs) (hx : ∀ x, x ∈ xs → U64 x) (hc : a = none → c = 0) (hd : n ≤ c) (tl : -9223372036854775808 ≤ t) (tu : t ≤ 9223372036854775807) (il : -9223372036854775808 ≤ i) (iu : i ≤ 9223372036854775807) (us : U64 s) :
    Calls Try.prog 7 #[.agg #[.int .u64 P, .int .u64 Q, .int .u64 G], .slice a n c, .int .i64 t, .int .i64 i, .int .u64 s] w fun e w' => e = .returned (.bool true) ∧ Below w.heap.size w w' := by
  have hP := uP.1
  have hQ := uQ.1
  have hG := uG.1
  have HS := Lib.hid hS
  have HX := Lib.hid hx
  have HLN := Lib.hid hS.len
  obtain ⟨co, hv⟩ := ValidS.exists P Q G
  obtain ⟨b, ps, ss, hd⟩ : ∃ b ps ss, dealS co P Q G t xs = (b, ps, ss) := ⟨_, _, _, rfl⟩
  have HV := Lib.hid hv
  have HD := Lib.hid hd
  cases b with
  | false =>
    clear hS hx hv hd
    have F_g := Lib.hid (show Boxed (w.alloc (.cells #[.int .u64 P, .int .u64 Q, .int .u64 G] 24)) (w.heap.size) P Q G from Boxed.at _ P Q G _ (w.heap.size) (by simp))
    have HBW := Lib.hid (show Below w.heap.size w (w.alloc (.cells #[.int .u64 P, .int .u64 Q, .int .u64 G] 24)) from (Below.refl _ _).alloc (by simp <;> omega) _)
    go_enter Try.func7, Try.ntmps7
    obtain ⟨x0a, x0b, x0c, -⟩ := id F_g.out
    go_wp2_with fail
    clear x0a x0b x0c
    refine (alive_yes _).mono ?_
    rintro e w1 ⟨rfl, hb1⟩
    replace F_g := Lib.hid (F_g.out.keep hb1)
    replace HBW := Lib.hid (HBW.out.trans (hb1.mono HBW.out.size))
    clear hb1
    obtain ⟨x0a, x0b, x0c, -⟩ := id F_g.out
    go_wp2_with fail
    clear x0a x0b x0c
    refine (deal_any _ hP hQ hG tl tu (HS.out.keep HBW.out) HX.out HV.out HD.out).mono ?_
    rintro e w2 ⟨v1, v2, rfl, ho1, ho2, hb2⟩
    replace F_g := Lib.hid (F_g.out.keep hb2)
    replace HBW := Lib.hid (HBW.out.trans (hb2.mono HBW.out.size))
    clear hb2
    obtain ⟨b1, e1, rfl, hs1⟩ := ho1.shI
    obtain ⟨b2, e2, rfl, hs2⟩ := ho2.shI
    have F_p := Lib.hid hs1
    have F_q := Lib.hid hs2
    clear ho1 ho2 hs1 hs2
    replace F_g := Lib.hid (F_g.out.alloc (.cells #[.slice b1 ps.length e1, .slice b2 ss.length e2] 27))
    replace F_p := Lib.hid (F_p.out.alloc (.cells #[.slice b1 ps.length e1, .slice b2 ss.length e2] 27))
    replace F_q := Lib.hid (F_q.out.alloc (.cells #[.slice b1 ps.length e1, .slice b2 ss.length e2] 27))
    have F_d := Lib.hid (DealBox.at w2 (.slice b1 ps.length e1) (.slice b2 ss.length e2) 27 (w2.heap.size) (by simp))
    replace HBW := Lib.hid (HBW.out.alloc HBW.out.size (.cells #[.slice b1 ps.length e1, .slice b2 ss.length e2] 27))
    obtain ⟨x0a, x0b, x0c, -⟩ := id F_g.out
    obtain ⟨x3a, x3b, x3c, x3d, -⟩ := id F_d.out
    go_wp2_with fail
    go_ret
    exact ⟨rfl, HBW.out⟩
  | true =>
    obtain ⟨hV, hbl, hlt, hnt, hps, hss⟩ := dealS_yes hv hd
    obtain ⟨t0, t8, tQ⟩ := numS_true hnt
    obtain ⟨tn, rfl⟩ : ∃ tn : Nat, t = (tn : Int) := ⟨t.toNat, by omega⟩
    obtain ⟨l1, l8, -⟩ := belowS_true hbl
    obtain ⟨p5, p3, _, pq, g2, gP⟩ := id hV.1
    have q3 : Q < 1073741824 := by omega
    by_cases hi1 : 1 ≤ i
    case neg =>
      have d1 : decide (i < 1) = true := by simp; omega
      clear hS hx hv hd hps hss hnt hbl hV pq
      have F_g := Lib.hid (show Boxed (w.alloc (.cells #[.int .u64 P, .int .u64 Q, .int .u64 G] 24)) (w.heap.size) P Q G from Boxed.at _ P Q G _ (w.heap.size) (by simp))
      have HBW := Lib.hid (show Below w.heap.size w (w.alloc (.cells #[.int .u64 P, .int .u64 Q, .int .u64 G] 24)) from (Below.refl _ _).alloc (by simp <;> omega) _)
      go_enter Try.func7, Try.ntmps7
      obtain ⟨x0a, x0b, x0c, -⟩ := id F_g.out
      go_wp2_with fail
      clear x0a x0b x0c
      refine (alive_yes _).mono ?_
      rintro e w1 ⟨rfl, hb1⟩
      replace F_g := Lib.hid (F_g.out.keep hb1)
      replace HBW := Lib.hid (HBW.out.trans (hb1.mono HBW.out.size))
      clear hb1
      obtain ⟨x0a, x0b, x0c, -⟩ := id F_g.out
      go_wp2_with fail
      clear x0a x0b x0c
      refine (deal_any _ hP hQ hG tl tu (HS.out.keep HBW.out) HX.out HV.out HD.out).mono ?_
      rintro e w2 ⟨v1, v2, rfl, ho1, ho2, hb2⟩
      replace F_g := Lib.hid (F_g.out.keep hb2)
      replace HBW := Lib.hid (HBW.out.trans (hb2.mono HBW.out.size))
      clear hb2
      obtain ⟨b1, e1, rfl, hs1⟩ := ho1.shI
      obtain ⟨b2, e2, rfl, hs2⟩ := ho2.shI
      have F_p := Lib.hid hs1
      have F_q := Lib.hid hs2
      clear ho1 ho2 hs1 hs2
      replace F_g := Lib.hid (F_g.out.alloc (.cells #[.slice b1 ps.length e1, .slice b2 ss.length e2] 27))
      replace F_p := Lib.hid (F_p.out.alloc (.cells #[.slice b1 ps.length e1, .slice b2 ss.length e2] 27))
      replace F_q := Lib.hid (F_q.out.alloc (.cells #[.slice b1 ps.length e1, .slice b2 ss.length e2] 27))
      have F_d := Lib.hid (DealBox.at w2 (.slice b1 ps.length e1) (.slice b2 ss.length e2) 27 (w2.heap.size) (by simp))
      replace HBW := Lib.hid (HBW.out.alloc HBW.out.size (.cells #[.slice b1 ps.length e1, .slice b2 ss.length e2] 27))
      obtain ⟨x0a, x0b, x0c, -⟩ := id F_g.out
      obtain ⟨x3a, x3b, x3c, x3d, -⟩ := id F_d.out
      go_wp2_with fail
      go_ret
      exact ⟨rfl, HBW.out⟩
    case pos =>
      have d1 : decide (i < 1) = false := by simp; omega
      by_cases hit : i ≤ (tn : Int)
      case neg =>
        have d2 : decide ((tn : Int) < i) = true := by simp; omega
        clear hS hx hv hd hps hss hnt hbl hV pq
        have F_g := Lib.hid (show Boxed (w.alloc (.cells #[.int .u64 P, .int .u64 Q, .int .u64 G] 24)) (w.heap.size) P Q G from Boxed.at _ P Q G _ (w.heap.size) (by simp))
        have HBW := Lib.hid (show Below w.heap.size w (w.alloc (.cells #[.int .u64 P, .int .u64 Q, .int .u64 G] 24)) from (Below.refl _ _).alloc (by simp <;> omega) _)
        go_enter Try.func7, Try.ntmps7
        obtain ⟨x0a, x0b, x0c, -⟩ := id F_g.out
        go_wp2_with fail
        clear x0a x0b x0c
        refine (alive_yes _).mono ?_
        rintro e w1 ⟨rfl, hb1⟩
        replace F_g := Lib.hid (F_g.out.keep hb1)
        replace HBW := Lib.hid (HBW.out.trans (hb1.mono HBW.out.size))
        clear hb1
        obtain ⟨x0a, x0b, x0c, -⟩ := id F_g.out
        go_wp2_with fail
        clear x0a x0b x0c
        refine (deal_any _ hP hQ hG tl tu (HS.out.keep HBW.out) HX.out HV.out HD.out).mono ?_
        rintro e w2 ⟨v1, v2, rfl, ho1, ho2, hb2⟩
        replace F_g := Lib.hid (F_g.out.keep hb2)
        replace HBW := Lib.hid (HBW.out.trans (hb2.mono HBW.out.size))
        clear hb2
        obtain ⟨b1, e1, rfl, hs1⟩ := ho1.shI
        obtain ⟨b2, e2, rfl, hs2⟩ := ho2.shI
        have F_p := Lib.hid hs1
        have F_q := Lib.hid hs2
        clear ho1 ho2 hs1 hs2
        replace F_g := Lib.hid (F_g.out.alloc (.cells #[.slice b1 ps.length e1, .slice b2 ss.length e2] 27))
        replace F_p := Lib.hid (F_p.out.alloc (.cells #[.slice b1 ps.length e1, .slice b2 ss.length e2] 27))
        replace F_q := Lib.hid (F_q.out.alloc (.cells #[.slice b1 ps.length e1, .slice b2 ss.length e2] 27))
        have F_d := Lib.hid (DealBox.at w2 (.slice b1 ps.length e1) (.slice b2 ss.length e2) 27 (w2.heap.size) (by simp))
        replace HBW := Lib.hid (HBW.out.alloc HBW.out.size (.cells #[.slice b1 ps.length e1, .slice b2 ss.length e2] 27))
        obtain ⟨x0a, x0b, x0c, -⟩ := id F_g.out
        obtain ⟨x3a, x3b, x3c, x3d, -⟩ := id F_d.out
        go_wp2_with fail
        go_ret
        exact ⟨rfl, HBW.out⟩
      case pos =>
        have d2 : decide ((tn : Int) < i) = false := by simp; omega
        by_cases hsQ : s < Q
        case neg =>
          have d3 : decide (Q ≤ s) = true := by simp; omega
          clear hS hx hv hd hps hss hnt hbl hV pq
          have F_g := Lib.hid (show Boxed (w.alloc (.cells #[.int .u64 P, .int .u64 Q, .int .u64 G] 24)) (w.heap.size) P Q G from Boxed.at _ P Q G _ (w.heap.size) (by simp))
          have HBW := Lib.hid (show Below w.heap.size w (w.alloc (.cells #[.int .u64 P, .int .u64 Q, .int .u64 G] 24)) from (Below.refl _ _).alloc (by simp <;> omega) _)
          go_enter Try.func7, Try.ntmps7
          obtain ⟨x0a, x0b, x0c, -⟩ := id F_g.out
          go_wp2_with fail
          clear x0a x0b x0c
          refine (alive_yes _).mono ?_
          rintro e w1 ⟨rfl, hb1⟩
          replace F_g := Lib.hid (F_g.out.keep hb1)
          replace HBW := Lib.hid (HBW.out.trans (hb1.mono HBW.out.size))
          clear hb1
          obtain ⟨x0a, x0b, x0c, -⟩ := id F_g.out
          go_wp2_with fail
          clear x0a x0b x0c
          refine (deal_any _ hP hQ hG tl tu (HS.out.keep HBW.out) HX.out HV.out HD.out).mono ?_
          rintro e w2 ⟨v1, v2, rfl, ho1, ho2, hb2⟩
          replace F_g := Lib.hid (F_g.out.keep hb2)
          replace HBW := Lib.hid (HBW.out.trans (hb2.mono HBW.out.size))
          clear hb2
          obtain ⟨b1, e1, rfl, hs1⟩ := ho1.shI
          obtain ⟨b2, e2, rfl, hs2⟩ := ho2.shI
          have F_p := Lib.hid hs1
          have F_q := Lib.hid hs2
          clear ho1 ho2 hs1 hs2
          replace F_g := Lib.hid (F_g.out.alloc (.cells #[.slice b1 ps.length e1, .slice b2 ss.length e2] 27))
          replace F_p := Lib.hid (F_p.out.alloc (.cells #[.slice b1 ps.length e1, .slice b2 ss.length e2] 27))
          replace F_q := Lib.hid (F_q.out.alloc (.cells #[.slice b1 ps.length e1, .slice b2 ss.length e2] 27))
          have F_d := Lib.hid (DealBox.at w2 (.slice b1 ps.length e1) (.slice b2 ss.length e2) 27 (w2.heap.size) (by simp))
          replace HBW := Lib.hid (HBW.out.alloc HBW.out.size (.cells #[.slice b1 ps.length e1, .slice b2 ss.length e2] 27))
          obtain ⟨x0a, x0b, x0c, -⟩ := id F_g.out
          obtain ⟨x3a, x3b, x3c, x3d, -⟩ := id F_d.out
          go_wp2_with fail
          go_ret
          exact ⟨rfl, HBW.out⟩
        case pos =>
          have d3 : decide (Q ≤ s) = false := by simp; omega
          obtain ⟨k, rfl⟩ : ∃ k : Nat, i = (k : Int) + 1 := ⟨(i - 1).toNat, by omega⟩
          have hkt : k < tn := by omega
          have hnn : n = xs.length := HLN.out
          have hn8 : n ≤ 8 := by omega
          have HPL := Lib.hid (show ps.length = n by rw [hps, pledges_len, hnn])
          have HQL := Lib.hid (show ss.length = tn by rw [hss, shares_len]; omega)
          have hni : numS Q ((k : Int) + 1) = true := by simp [numS]; omega
          have hn0 : numS Q 0 = true := by simp [numS]; omega
          have hx' := belowS_bd hbl hx
          obtain ⟨v, hvv⟩ : ∃ v, valS Q ((k : Int) + 1) xs = v := ⟨_, rfl⟩
          have hvr := valS_range ((k : Int) + 1) (show 0 < Q by omega) xs
          rw [hvv] at hvr
          have us0 : U64 v := ⟨hvr.1, by omega⟩
          have HPU := Lib.hid (show ∀ x, x ∈ ps → U64 x by
            rw [hps]; intro x hx; rw [pledgesS, List.mem_map] at hx; obtain ⟨y, -, rfl⟩ := hx
            exact ⟨powm_nonneg (by omega), by have := powm_lt (a := G) (x := y) (show 0 < P by omega); omega⟩)
          have HGOOD := Lib.hid (show verifyS P Q G ((k : Int) + 1) v ps = (true, 0) by rw [hps, verify_at hV hbl hx hni hvr.1 hvr.2, hvv]; simp)
          have HOTHER := Lib.hid (show verifyS P Q G ((k : Int) + 1) s ps = (decide (s = v), 0) by rw [hps, verify_at hV hbl hx hni us.1 hsQ, hvv])
          obtain ⟨x0, hx0⟩ : ∃ x0, xs.getD 0 0 = x0 := ⟨_, rfl⟩
          obtain ⟨x0l, x0r⟩ : 0 ≤ x0 ∧ x0 < Q := by rw [← hx0, getD_at (show 0 < xs.length by omega)]; exact hx' _ (List.getElem_mem _)
          have ux0 : U64 x0 := ⟨x0l, by omega⟩
          have HZERO := Lib.hid (show verifyS P Q G 0 x0 ps = (true, 0) by
            rw [hps, verify_at hV hbl hx hn0 x0l x0r]
            have : valS Q 0 xs = x0 := by
              cases hxs : xs with
              | nil => rw [hxs] at l1; simp at l1
              | cons y l =>
                rw [hxs] at hx0
                simp at hx0
                subst hx0
                exact val_zero x0l x0r
            rw [this]; simp)
          have HSH := Lib.hid (show ss.getD k 0 = v by rw [hss, share_at (by omega), hvv])
          obtain ⟨s3, f3, ha3, hs3, hc3, -⟩ := HS.out.at 0 (by omega)
          rw [hx0, Nat.add_zero] at hc3
          have HC0 := Lib.hid (show ∀ W', Below w.heap.size w W' → W'.cell? ⟨s3, f3, none⟩ = some (.int .u64 x0) from fun W' h => (h.cell (p := ⟨s3, f3, none⟩) hs3).trans hc3)
          have hk0 : (0 : Int) ≤ (k : Int) := by omega
          have hk1 : (k : Int) < (tn : Int) := by omega
          have hwk : IntKind.i64.wrap (k : Int) = (k : Int) := IntWalk.i64_in _ (by omega)
          have hn1 : (0 : Int) < (n : Int) := by omega
          have hn1n : 0 < n := by omega
          have hp1 : ((k : Int) + 1) - 1 = (k : Int) := by omega
          clear hS hx hv hd hps hss hnt hbl hV pq hni hn0 hx' hvv hx0 hc3 hnn
          subst ha3
          have F_g := Lib.hid (show Boxed (w.alloc (.cells #[.int .u64 P, .int .u64 Q, .int .u64 G] 24)) (w.heap.size) P Q G from Boxed.at _ P Q G _ (w.heap.size) (by simp))
          have HBW := Lib.hid (show Below w.heap.size w (w.alloc (.cells #[.int .u64 P, .int .u64 Q, .int .u64 G] 24)) from (Below.refl _ _).alloc (by simp <;> omega) _)
          go_enter Try.func7, Try.ntmps7
          obtain ⟨x0a, x0b, x0c, -⟩ := id F_g.out
          go_wp2_with fail
          clear x0a x0b x0c
          refine (alive_yes _).mono ?_
          rintro e w1 ⟨rfl, hb1⟩
          replace F_g := Lib.hid (F_g.out.keep hb1)
          replace HBW := Lib.hid (HBW.out.trans (hb1.mono HBW.out.size))
          clear hb1
          obtain ⟨x0a, x0b, x0c, -⟩ := id F_g.out
          go_wp2_with fail
          clear x0a x0b x0c
          refine (deal_any _ hP hQ hG tl tu (HS.out.keep HBW.out) HX.out HV.out HD.out).mono ?_
          rintro e w2 ⟨v1, v2, rfl, ho1, ho2, hb2⟩
          replace F_g := Lib.hid (F_g.out.keep hb2)
          replace HBW := Lib.hid (HBW.out.trans (hb2.mono HBW.out.size))
          clear hb2
          obtain ⟨b1, e1, rfl, hs1⟩ := ho1.shI
          obtain ⟨b2, e2, rfl, hs2⟩ := ho2.shI
          have F_p := Lib.hid hs1
          have F_q := Lib.hid hs2
          clear ho1 ho2 hs1 hs2
          rw [HPL.out] at F_p ⊢
          rw [HQL.out] at F_q ⊢
          replace F_g := Lib.hid (F_g.out.alloc (.cells #[.slice b1 n e1, .slice b2 tn e2] 27))
          replace F_p := Lib.hid (F_p.out.alloc (.cells #[.slice b1 n e1, .slice b2 tn e2] 27))
          replace F_q := Lib.hid (F_q.out.alloc (.cells #[.slice b1 n e1, .slice b2 tn e2] 27))
          have F_d := Lib.hid (DealBox.at w2 (.slice b1 n e1) (.slice b2 tn e2) 27 (w2.heap.size) (by simp))
          replace HBW := Lib.hid (HBW.out.alloc HBW.out.size (.cells #[.slice b1 n e1, .slice b2 tn e2] 27))
          obtain ⟨s1, f1, hb2, -, -, -⟩ := F_q.out.at k hkt
          subst hb2
          have HCQ := Lib.hid (show ∀ W', ShI .u64 W' (some ⟨s1, f1, none⟩) tn ss → W'.cell? ⟨s1, f1 + k, none⟩ = some (.int .u64 v) from fun W' h => by
            obtain ⟨s', f', he, -, hc, -⟩ := h.at k hkt
            cases he
            rw [hc, HSH.out])
          by_cases hsv : s = v
          case pos =>
            rw [show decide (s = v) = true by simpa using hsv] at HOTHER
            have d9 : (s == v) = true := by simpa using hsv
            clear hsv
            obtain ⟨x0a, x0b, x0c, -⟩ := id F_g.out
            obtain ⟨x3a, x3b, x3c, x3d, -⟩ := id F_d.out
            go_wp2_with fail
            clear x0a x0b x0c x3a x3b x3c x3d
            replace F_g := Lib.hid F_g.out.drew
            replace F_p := Lib.hid F_p.out.drew
            replace F_q := Lib.hid F_q.out.drew
            replace F_d := Lib.hid F_d.out.drew
            replace HBW := Lib.hid HBW.out.drew
            have hS := And.intro F_g.out.s (And.intro F_d.out.c0 (And.intro F_d.out.c1 (HCQ.out _ F_q.out)))
            refine wp_region_stage 15 (fun w' => SBox w' w.heap.size P Q G ∧ w'.cell? ⟨w2.heap.size, 0, none⟩ = some (.slice b1 n e1) ∧ w'.cell? ⟨w2.heap.size, 1, none⟩ = some (.slice (some ⟨s1, f1, none⟩) tn e2) ∧ w'.cell? ⟨s1, f1 + k, none⟩ = some (.int .u64 v)) (by kernel_rfl) ?_
            refine wpAnyB_take (i := 0) (some 64) (Op.load 24 (Operand.tmp 5)) 24 (v := ?_) ⟨_, rfl, rfl, rfl, rfl, rfl⟩ (by kernel_rfl) (by kernel_rfl) (by kernel_rfl) [10, 11, 12, 13, 14, 15] (by kernel_rfl) (fun _ _ _ h => h) hS (fun w' hSw => ?_) ?_
            rotate_left
            · obtain ⟨⟨z0, z1, z2⟩, z3, z4, z5⟩ := hSw
              unfold bareOp
              go_simp
              try with_reducible rfl
            simp only [Act.put, List.setIfInBounds_toArray, List.set_cons_zero, List.set_cons_succ]
            refine wpAnyB_takeP (i := 1) (some 65) (Op.fieldAddr 27 (Operand.tmp 12) 0) 0 (v := ?_) ⟨_, rfl, rfl, rfl, rfl, rfl⟩ (by kernel_rfl) (by kernel_rfl) (by kernel_rfl) (by kernel_rfl) (fun _ _ _ h => h) (fun _ => hS) (fun w' => ?_) ?_
            rotate_left
            · unfold bareOp
              go_simp
              try with_reducible rfl
            simp only [Act.put, List.setIfInBounds_toArray, List.set_cons_zero, List.set_cons_succ]
            refine wpAnyB_take (i := 2) (some 66) (Op.load 25 (Operand.tmp 65)) 25 (v := ?_) ⟨_, rfl, rfl, rfl, rfl, rfl⟩ (by kernel_rfl) (by kernel_rfl) (by kernel_rfl) [10, 11, 12, 13, 14, 15] (by kernel_rfl) (fun _ _ _ h => h) hS (fun w' hSw => ?_) ?_
            rotate_left
            · obtain ⟨⟨z0, z1, z2⟩, z3, z4, z5⟩ := hSw
              unfold bareOp
              go_simp
              try with_reducible rfl
            simp only [Act.put, List.setIfInBounds_toArray, List.set_cons_zero, List.set_cons_succ]
            refine wpAnyB_takeP (i := 3) (some 67) (Op.move (Operand.tmp 3)) 3 (v := ?_) ⟨_, rfl, rfl, rfl, rfl, rfl⟩ (by kernel_rfl) (by kernel_rfl) (by kernel_rfl) (by kernel_rfl) (fun _ _ _ h => h) (fun _ => hS) (fun w' => ?_) ?_
            rotate_left
            · unfold bareOp
              go_simp
              try with_reducible rfl
            simp only [Act.put, List.setIfInBounds_toArray, List.set_cons_zero, List.set_cons_succ]
            refine wpAnyB_takeP (i := 4) (some 68) (Op.fieldAddr 27 (Operand.tmp 12) 1) 0 (v := ?_) ⟨_, rfl, rfl, rfl, rfl, rfl⟩ (by kernel_rfl) (by kernel_rfl) (by kernel_rfl) (by kernel_rfl) (fun _ _ _ h => h) (fun _ => hS) (fun w' => ?_) ?_
            rotate_left
            · unfold bareOp
              go_simp
              try with_reducible rfl
            simp only [Act.put, List.setIfInBounds_toArray, List.set_cons_zero, List.set_cons_succ]
            refine wpAnyB_take (i := 5) (some 69) (Op.load 25 (Operand.tmp 68)) 25 (v := ?_) ⟨_, rfl, rfl, rfl, rfl, rfl⟩ (by kernel_rfl) (by kernel_rfl) (by kernel_rfl) [8, 9, 10, 11, 12, 13, 14, 15] (by kernel_rfl) (fun _ _ _ h => h) hS (fun w' hSw => ?_) ?_
            rotate_left
            · obtain ⟨⟨z0, z1, z2⟩, z3, z4, z5⟩ := hSw
              unfold bareOp
              go_simp
              try with_reducible rfl
            simp only [Act.put, List.setIfInBounds_toArray, List.set_cons_zero, List.set_cons_succ]
            refine wpAnyB_takeP (i := 6) (some 70) (Op.move (Operand.tmp 3)) 3 (v := ?_) ⟨_, rfl, rfl, rfl, rfl, rfl⟩ (by kernel_rfl) (by kernel_rfl) (by kernel_rfl) (by kernel_rfl) (fun _ _ _ h => h) (fun _ => hS) (fun w' => ?_) ?_
            rotate_left
            · unfold bareOp
              go_simp
              try with_reducible rfl
            simp only [Act.put, List.setIfInBounds_toArray, List.set_cons_zero, List.set_cons_succ]
            refine wpAnyB_takeP (i := 7) (some 71) (Op.binOp BinOp.sub 3 (Operand.tmp 70) (Operand.const (Value.int IntKind.i64 1)) 3) 3 (v := ?_) ⟨_, rfl, rfl, rfl, rfl, rfl⟩ (by kernel_rfl) (by kernel_rfl) (by kernel_rfl) (by kernel_rfl) (fun _ _ _ h => h) (fun _ => hS) (fun w' => ?_) ?_
            rotate_left
            · unfold bareOp
              go_simp
              try with_reducible rfl
            simp only [Act.put, List.setIfInBounds_toArray, List.set_cons_zero, List.set_cons_succ]
            refine wpAnyB_takeP (i := 8) (some 72) (Op.indexAddr 25 (Operand.tmp 69) (Operand.tmp 71)) 0 (v := ?_) ⟨_, rfl, rfl, rfl, rfl, rfl⟩ (by kernel_rfl) (by kernel_rfl) (by kernel_rfl) (by kernel_rfl) (fun _ _ _ h => h) (fun _ => hS) (fun w' => ?_) ?_
            rotate_left
            · unfold bareOp
              go_simp
              try with_reducible rfl
            simp only [Act.put, List.setIfInBounds_toArray, List.set_cons_zero, List.set_cons_succ]
            refine wpAnyB_take (i := 9) (some 73) (Op.load 22 (Operand.tmp 72)) 22 (v := ?_) ⟨_, rfl, rfl, rfl, rfl, rfl⟩ (by kernel_rfl) (by kernel_rfl) (by kernel_rfl) [10, 11, 12, 13, 14, 15] (by kernel_rfl) (fun _ _ _ h => h) hS (fun w' hSw => ?_) ?_
            rotate_left
            · obtain ⟨⟨z0, z1, z2⟩, z3, z4, z5⟩ := hSw
              unfold bareOp
              go_simp
              try with_reducible rfl
            simp only [Act.put, List.setIfInBounds_toArray, List.set_cons_zero, List.set_cons_succ]
            refine wpAnyB_only (i := 10) (some 74) (Op.call { callee := Callee.value (Operand.func 25), args := #[Operand.tmp 64, Operand.tmp 66, Operand.tmp 67, Operand.tmp 73], argTypes := #[24, 25, 3, 22] }) 45 ⟨_, rfl, rfl, rfl, rfl, rfl⟩ (by kernel_rfl) (fun K hK => ?_)
            unfold bareOp
            go_wp2_with (go_at_call 25; refine (sVerify_any _ hP hQ hG us0 il iu F_p.out (by omega) HPU.out HGOOD.out).mono ?_; rintro e w5 ⟨rfl, hb5⟩)
            replace F_g := Lib.hid (F_g.out.keep hb5)
            replace F_p := Lib.hid (F_p.out.keep hb5)
            replace F_q := Lib.hid (F_q.out.keep hb5)
            replace F_d := Lib.hid (F_d.out.keep hb5)
            replace HBW := Lib.hid (HBW.out.trans (hb5.mono HBW.out.size))
            replace hS := And.intro F_g.out.s (And.intro F_d.out.c0 (And.intro F_d.out.c1 (HCQ.out _ F_q.out)))
            clear hb5
            refine hK.out _ _ (fun _ => hS) ?_
            clear hK K
            try simp only [Act.put, List.setIfInBounds_toArray, List.set_cons_zero, List.set_cons_succ]
            refine wpAnyB_takeP (i := 11) (some 63) (Op.move (Operand.tmp 74)) 45 (v := ?_) ⟨_, rfl, rfl, rfl, rfl, rfl⟩ (by kernel_rfl) (by kernel_rfl) (by kernel_rfl) (by kernel_rfl) (fun _ _ _ h => h) (fun _ => hS) (fun w' => ?_) ?_
            rotate_left
            · unfold bareOp
              go_simp
              try with_reducible rfl
            simp only [Act.put, List.setIfInBounds_toArray, List.set_cons_zero, List.set_cons_succ]
            refine wpAnyB_takeP (i := 12) (some 75) (Op.extract (Operand.tmp 63) 0) 4 (v := ?_) ⟨_, rfl, rfl, rfl, rfl, rfl⟩ (by kernel_rfl) (by kernel_rfl) (by kernel_rfl) (by kernel_rfl) (fun _ _ _ h => h) (fun _ => hS) (fun w' => ?_) ?_
            rotate_left
            · unfold bareOp
              go_simp
              try with_reducible rfl
            simp only [Act.put, List.setIfInBounds_toArray, List.set_cons_zero, List.set_cons_succ]
            refine wpAnyB_takeP (i := 13) (some 76) (Op.extract (Operand.tmp 63) 1) 30 (v := ?_) ⟨_, rfl, rfl, rfl, rfl, rfl⟩ (by kernel_rfl) (by kernel_rfl) (by kernel_rfl) (by kernel_rfl) (fun _ _ _ h => h) (fun _ => hS) (fun w' => ?_) ?_
            rotate_left
            · unfold bareOp
              go_simp
              try with_reducible rfl
            simp only [Act.put, List.setIfInBounds_toArray, List.set_cons_zero, List.set_cons_succ]
            refine wpAnyB_takeP (i := 14) (some 14) (Op.assign (Operand.tmp 75)) 4 (v := ?_) ⟨_, rfl, rfl, rfl, rfl, rfl⟩ (by kernel_rfl) (by kernel_rfl) (by kernel_rfl) (by kernel_rfl) (fun _ _ _ h => h) (fun _ => hS) (fun w' => ?_) ?_
            rotate_left
            · unfold bareOp
              go_simp
              try with_reducible rfl
            simp only [Act.put, List.setIfInBounds_toArray, List.set_cons_zero, List.set_cons_succ]
            refine wpAnyB_only (i := 15) (some 15) (Op.assign (Operand.tmp 76)) 30 ⟨_, rfl, rfl, rfl, rfl, rfl⟩ (by kernel_rfl) (fun K hK => ?_)
            unfold bareOp
            go_wp2_with fail
            refine hK.out _ _ (fun h => absurd (h.symm.trans (by kernel_rfl : _ = true)) (by decide)) ?_
            clear hK K
            try simp only [Act.put, List.setIfInBounds_toArray, List.set_cons_zero, List.set_cons_succ]
            refine wpAnyB_done (by kernel_rfl) ?_ _
            clear hS
            obtain ⟨x0a, x0b, x0c, -⟩ := id F_g.out
            obtain ⟨x3a, x3b, x3c, x3d, -⟩ := id F_d.out
            go_wp2_with fail
            clear x0a x0b x0c x3a x3b x3c x3d
            refine (sVerify_any _ hP hQ hG us il iu F_p.out (by omega) HPU.out HOTHER.out).mono ?_
            rintro e w6 ⟨rfl, hb6⟩
            replace F_g := Lib.hid (F_g.out.keep hb6)
            replace F_p := Lib.hid (F_p.out.keep hb6)
            replace F_q := Lib.hid (F_q.out.keep hb6)
            replace F_d := Lib.hid (F_d.out.keep hb6)
            replace HBW := Lib.hid (HBW.out.trans (hb6.mono HBW.out.size))
            clear hb6
            obtain ⟨x0a, x0b, x0c, -⟩ := id F_g.out
            obtain ⟨x3a, x3b, x3c, x3d, -⟩ := id F_d.out
            go_wp2_with fail
            clear x0a x0b x0c x3a x3b x3c x3d
            replace F_g := Lib.hid F_g.out.drew
            replace F_p := Lib.hid F_p.out.drew
            replace F_q := Lib.hid F_q.out.drew
            replace F_d := Lib.hid F_d.out.drew
            replace HBW := Lib.hid HBW.out.drew
            have hS := And.intro F_g.out.s (And.intro F_d.out.c0 (And.intro F_d.out.c1 (HC0.out _ HBW.out)))
            refine wp_region_stage 11 (fun w' => SBox w' w.heap.size P Q G ∧ w'.cell? ⟨w2.heap.size, 0, none⟩ = some (.slice b1 n e1) ∧ w'.cell? ⟨w2.heap.size, 1, none⟩ = some (.slice (some ⟨s1, f1, none⟩) tn e2) ∧ w'.cell? ⟨s3, f3, none⟩ = some (.int .u64 x0)) (by kernel_rfl) ?_
            refine wpAnyB_take (i := 0) (some 87) (Op.load 24 (Operand.tmp 5)) 24 (v := ?_) ⟨_, rfl, rfl, rfl, rfl, rfl⟩ (by kernel_rfl) (by kernel_rfl) (by kernel_rfl) [6, 7, 8, 9, 10, 11] (by kernel_rfl) (fun _ _ _ h => h) hS (fun w' hSw => ?_) ?_
            rotate_left
            · obtain ⟨⟨z0, z1, z2⟩, z3, z4, z5⟩ := hSw
              unfold bareOp
              go_simp
              try with_reducible rfl
            simp only [Act.put, List.setIfInBounds_toArray, List.set_cons_zero, List.set_cons_succ]
            refine wpAnyB_takeP (i := 1) (some 88) (Op.fieldAddr 27 (Operand.tmp 12) 0) 0 (v := ?_) ⟨_, rfl, rfl, rfl, rfl, rfl⟩ (by kernel_rfl) (by kernel_rfl) (by kernel_rfl) (by kernel_rfl) (fun _ _ _ h => h) (fun _ => hS) (fun w' => ?_) ?_
            rotate_left
            · unfold bareOp
              go_simp
              try with_reducible rfl
            simp only [Act.put, List.setIfInBounds_toArray, List.set_cons_zero, List.set_cons_succ]
            refine wpAnyB_take (i := 2) (some 89) (Op.load 25 (Operand.tmp 88)) 25 (v := ?_) ⟨_, rfl, rfl, rfl, rfl, rfl⟩ (by kernel_rfl) (by kernel_rfl) (by kernel_rfl) [6, 7, 8, 9, 10, 11] (by kernel_rfl) (fun _ _ _ h => h) hS (fun w' hSw => ?_) ?_
            rotate_left
            · obtain ⟨⟨z0, z1, z2⟩, z3, z4, z5⟩ := hSw
              unfold bareOp
              go_simp
              try with_reducible rfl
            simp only [Act.put, List.setIfInBounds_toArray, List.set_cons_zero, List.set_cons_succ]
            refine wpAnyB_takeP (i := 3) (some 90) (Op.move (Operand.tmp 1)) 25 (v := ?_) ⟨_, rfl, rfl, rfl, rfl, rfl⟩ (by kernel_rfl) (by kernel_rfl) (by kernel_rfl) (by kernel_rfl) (fun _ _ _ h => h) (fun _ => hS) (fun w' => ?_) ?_
            rotate_left
            · unfold bareOp
              go_simp
              try with_reducible rfl
            simp only [Act.put, List.setIfInBounds_toArray, List.set_cons_zero, List.set_cons_succ]
            refine wpAnyB_takeP (i := 4) (some 91) (Op.indexAddr 25 (Operand.tmp 90) (Operand.const (Value.int IntKind.i64 0))) 0 (v := ?_) ⟨_, rfl, rfl, rfl, rfl, rfl⟩ (by kernel_rfl) (by kernel_rfl) (by kernel_rfl) (by kernel_rfl) (fun _ _ _ h => h) (fun _ => hS) (fun w' => ?_) ?_
            rotate_left
            · unfold bareOp
              go_simp
              try with_reducible rfl
            simp only [Act.put, List.setIfInBounds_toArray, List.set_cons_zero, List.set_cons_succ]
            refine wpAnyB_take (i := 5) (some 92) (Op.load 22 (Operand.tmp 91)) 22 (v := ?_) ⟨_, rfl, rfl, rfl, rfl, rfl⟩ (by kernel_rfl) (by kernel_rfl) (by kernel_rfl) [6, 7, 8, 9, 10, 11] (by kernel_rfl) (fun _ _ _ h => h) hS (fun w' hSw => ?_) ?_
            rotate_left
            · obtain ⟨⟨z0, z1, z2⟩, z3, z4, z5⟩ := hSw
              unfold bareOp
              go_simp
              try with_reducible rfl
            simp only [Act.put, List.setIfInBounds_toArray, List.set_cons_zero, List.set_cons_succ]
            refine wpAnyB_only (i := 6) (some 93) (Op.call { callee := Callee.value (Operand.func 25), args := #[Operand.tmp 87, Operand.tmp 89, Operand.const (Value.int IntKind.i64 0), Operand.tmp 92], argTypes := #[24, 25, 3, 22] }) 45 ⟨_, rfl, rfl, rfl, rfl, rfl⟩ (by kernel_rfl) (fun K hK => ?_)
            unfold bareOp
            go_wp2_with (go_at_call 25; refine (sVerify_any _ hP hQ hG ux0 (by omega) (by omega) F_p.out (by omega) HPU.out HZERO.out).mono ?_; rintro e w7 ⟨rfl, hb7⟩)
            replace F_g := Lib.hid (F_g.out.keep hb7)
            replace F_p := Lib.hid (F_p.out.keep hb7)
            replace F_q := Lib.hid (F_q.out.keep hb7)
            replace F_d := Lib.hid (F_d.out.keep hb7)
            replace HBW := Lib.hid (HBW.out.trans (hb7.mono HBW.out.size))
            replace hS := And.intro F_g.out.s (And.intro F_d.out.c0 (And.intro F_d.out.c1 (HC0.out _ HBW.out)))
            clear hb7
            refine hK.out _ _ (fun _ => hS) ?_
            clear hK K
            try simp only [Act.put, List.setIfInBounds_toArray, List.set_cons_zero, List.set_cons_succ]
            refine wpAnyB_takeP (i := 7) (some 86) (Op.move (Operand.tmp 93)) 45 (v := ?_) ⟨_, rfl, rfl, rfl, rfl, rfl⟩ (by kernel_rfl) (by kernel_rfl) (by kernel_rfl) (by kernel_rfl) (fun _ _ _ h => h) (fun _ => hS) (fun w' => ?_) ?_
            rotate_left
            · unfold bareOp
              go_simp
              try with_reducible rfl
            simp only [Act.put, List.setIfInBounds_toArray, List.set_cons_zero, List.set_cons_succ]
            refine wpAnyB_takeP (i := 8) (some 94) (Op.extract (Operand.tmp 86) 0) 4 (v := ?_) ⟨_, rfl, rfl, rfl, rfl, rfl⟩ (by kernel_rfl) (by kernel_rfl) (by kernel_rfl) (by kernel_rfl) (fun _ _ _ h => h) (fun _ => hS) (fun w' => ?_) ?_
            rotate_left
            · unfold bareOp
              go_simp
              try with_reducible rfl
            simp only [Act.put, List.setIfInBounds_toArray, List.set_cons_zero, List.set_cons_succ]
            refine wpAnyB_takeP (i := 9) (some 95) (Op.extract (Operand.tmp 86) 1) 30 (v := ?_) ⟨_, rfl, rfl, rfl, rfl, rfl⟩ (by kernel_rfl) (by kernel_rfl) (by kernel_rfl) (by kernel_rfl) (fun _ _ _ h => h) (fun _ => hS) (fun w' => ?_) ?_
            rotate_left
            · unfold bareOp
              go_simp
              try with_reducible rfl
            simp only [Act.put, List.setIfInBounds_toArray, List.set_cons_zero, List.set_cons_succ]
            refine wpAnyB_takeP (i := 10) (some 18) (Op.assign (Operand.tmp 94)) 4 (v := ?_) ⟨_, rfl, rfl, rfl, rfl, rfl⟩ (by kernel_rfl) (by kernel_rfl) (by kernel_rfl) (by kernel_rfl) (fun _ _ _ h => h) (fun _ => hS) (fun w' => ?_) ?_
            rotate_left
            · unfold bareOp
              go_simp
              try with_reducible rfl
            simp only [Act.put, List.setIfInBounds_toArray, List.set_cons_zero, List.set_cons_succ]
            refine wpAnyB_only (i := 11) (some 19) (Op.assign (Operand.tmp 95)) 30 ⟨_, rfl, rfl, rfl, rfl, rfl⟩ (by kernel_rfl) (fun K hK => ?_)
            unfold bareOp
            go_wp2_with fail
            refine hK.out _ _ (fun h => absurd (h.symm.trans (by kernel_rfl : _ = true)) (by decide)) ?_
            clear hK K
            try simp only [Act.put, List.setIfInBounds_toArray, List.set_cons_zero, List.set_cons_succ]
            refine wpAnyB_done (by kernel_rfl) ?_ _
            clear hS
            have hcq := HCQ.out _ F_q.out
            obtain ⟨x0a, x0b, x0c, -⟩ := id F_g.out
            obtain ⟨x3a, x3b, x3c, x3d, -⟩ := id F_d.out
            go_wp2_with fail
            go_ret
            exact ⟨rfl, HBW.out⟩
          case neg =>
            rw [show decide (s = v) = false by simpa using hsv] at HOTHER
            have d9 : (s == v) = false := by simpa using hsv
            clear hsv
            obtain ⟨x0a, x0b, x0c, -⟩ := id F_g.out
            obtain ⟨x3a, x3b, x3c, x3d, -⟩ := id F_d.out
            go_wp2_with fail
            clear x0a x0b x0c x3a x3b x3c x3d
            replace F_g := Lib.hid F_g.out.drew
            replace F_p := Lib.hid F_p.out.drew
            replace F_q := Lib.hid F_q.out.drew
            replace F_d := Lib.hid F_d.out.drew
            replace HBW := Lib.hid HBW.out.drew
            have hS := And.intro F_g.out.s (And.intro F_d.out.c0 (And.intro F_d.out.c1 (HCQ.out _ F_q.out)))
            refine wp_region_stage 15 (fun w' => SBox w' w.heap.size P Q G ∧ w'.cell? ⟨w2.heap.size, 0, none⟩ = some (.slice b1 n e1) ∧ w'.cell? ⟨w2.heap.size, 1, none⟩ = some (.slice (some ⟨s1, f1, none⟩) tn e2) ∧ w'.cell? ⟨s1, f1 + k, none⟩ = some (.int .u64 v)) (by kernel_rfl) ?_
            refine wpAnyB_take (i := 0) (some 64) (Op.load 24 (Operand.tmp 5)) 24 (v := ?_) ⟨_, rfl, rfl, rfl, rfl, rfl⟩ (by kernel_rfl) (by kernel_rfl) (by kernel_rfl) [10, 11, 12, 13, 14, 15] (by kernel_rfl) (fun _ _ _ h => h) hS (fun w' hSw => ?_) ?_
            rotate_left
            · obtain ⟨⟨z0, z1, z2⟩, z3, z4, z5⟩ := hSw
              unfold bareOp
              go_simp
              try with_reducible rfl
            simp only [Act.put, List.setIfInBounds_toArray, List.set_cons_zero, List.set_cons_succ]
            refine wpAnyB_takeP (i := 1) (some 65) (Op.fieldAddr 27 (Operand.tmp 12) 0) 0 (v := ?_) ⟨_, rfl, rfl, rfl, rfl, rfl⟩ (by kernel_rfl) (by kernel_rfl) (by kernel_rfl) (by kernel_rfl) (fun _ _ _ h => h) (fun _ => hS) (fun w' => ?_) ?_
            rotate_left
            · unfold bareOp
              go_simp
              try with_reducible rfl
            simp only [Act.put, List.setIfInBounds_toArray, List.set_cons_zero, List.set_cons_succ]
            refine wpAnyB_take (i := 2) (some 66) (Op.load 25 (Operand.tmp 65)) 25 (v := ?_) ⟨_, rfl, rfl, rfl, rfl, rfl⟩ (by kernel_rfl) (by kernel_rfl) (by kernel_rfl) [10, 11, 12, 13, 14, 15] (by kernel_rfl) (fun _ _ _ h => h) hS (fun w' hSw => ?_) ?_
            rotate_left
            · obtain ⟨⟨z0, z1, z2⟩, z3, z4, z5⟩ := hSw
              unfold bareOp
              go_simp
              try with_reducible rfl
            simp only [Act.put, List.setIfInBounds_toArray, List.set_cons_zero, List.set_cons_succ]
            refine wpAnyB_takeP (i := 3) (some 67) (Op.move (Operand.tmp 3)) 3 (v := ?_) ⟨_, rfl, rfl, rfl, rfl, rfl⟩ (by kernel_rfl) (by kernel_rfl) (by kernel_rfl) (by kernel_rfl) (fun _ _ _ h => h) (fun _ => hS) (fun w' => ?_) ?_
            rotate_left
            · unfold bareOp
              go_simp
              try with_reducible rfl
            simp only [Act.put, List.setIfInBounds_toArray, List.set_cons_zero, List.set_cons_succ]
            refine wpAnyB_takeP (i := 4) (some 68) (Op.fieldAddr 27 (Operand.tmp 12) 1) 0 (v := ?_) ⟨_, rfl, rfl, rfl, rfl, rfl⟩ (by kernel_rfl) (by kernel_rfl) (by kernel_rfl) (by kernel_rfl) (fun _ _ _ h => h) (fun _ => hS) (fun w' => ?_) ?_
            rotate_left
            · unfold bareOp
              go_simp
              try with_reducible rfl
            simp only [Act.put, List.setIfInBounds_toArray, List.set_cons_zero, List.set_cons_succ]
            refine wpAnyB_take (i := 5) (some 69) (Op.load 25 (Operand.tmp 68)) 25 (v := ?_) ⟨_, rfl, rfl, rfl, rfl, rfl⟩ (by kernel_rfl) (by kernel_rfl) (by kernel_rfl) [8, 9, 10, 11, 12, 13, 14, 15] (by kernel_rfl) (fun _ _ _ h => h) hS (fun w' hSw => ?_) ?_
            rotate_left
            · obtain ⟨⟨z0, z1, z2⟩, z3, z4, z5⟩ := hSw
              unfold bareOp
              go_simp
              try with_reducible rfl
            simp only [Act.put, List.setIfInBounds_toArray, List.set_cons_zero, List.set_cons_succ]
            refine wpAnyB_takeP (i := 6) (some 70) (Op.move (Operand.tmp 3)) 3 (v := ?_) ⟨_, rfl, rfl, rfl, rfl, rfl⟩ (by kernel_rfl) (by kernel_rfl) (by kernel_rfl) (by kernel_rfl) (fun _ _ _ h => h) (fun _ => hS) (fun w' => ?_) ?_
            rotate_left
            · unfold bareOp
              go_simp
              try with_reducible rfl
            simp only [Act.put, List.setIfInBounds_toArray, List.set_cons_zero, List.set_cons_succ]
            refine wpAnyB_takeP (i := 7) (some 71) (Op.binOp BinOp.sub 3 (Operand.tmp 70) (Operand.const (Value.int IntKind.i64 1)) 3) 3 (v := ?_) ⟨_, rfl, rfl, rfl, rfl, rfl⟩ (by kernel_rfl) (by kernel_rfl) (by kernel_rfl) (by kernel_rfl) (fun _ _ _ h => h) (fun _ => hS) (fun w' => ?_) ?_
            rotate_left
            · unfold bareOp
              go_simp
              try with_reducible rfl
            simp only [Act.put, List.setIfInBounds_toArray, List.set_cons_zero, List.set_cons_succ]
            refine wpAnyB_takeP (i := 8) (some 72) (Op.indexAddr 25 (Operand.tmp 69) (Operand.tmp 71)) 0 (v := ?_) ⟨_, rfl, rfl, rfl, rfl, rfl⟩ (by kernel_rfl) (by kernel_rfl) (by kernel_rfl) (by kernel_rfl) (fun _ _ _ h => h) (fun _ => hS) (fun w' => ?_) ?_
            rotate_left
            · unfold bareOp
              go_simp
              try with_reducible rfl
            simp only [Act.put, List.setIfInBounds_toArray, List.set_cons_zero, List.set_cons_succ]
            refine wpAnyB_take (i := 9) (some 73) (Op.load 22 (Operand.tmp 72)) 22 (v := ?_) ⟨_, rfl, rfl, rfl, rfl, rfl⟩ (by kernel_rfl) (by kernel_rfl) (by kernel_rfl) [10, 11, 12, 13, 14, 15] (by kernel_rfl) (fun _ _ _ h => h) hS (fun w' hSw => ?_) ?_
            rotate_left
            · obtain ⟨⟨z0, z1, z2⟩, z3, z4, z5⟩ := hSw
              unfold bareOp
              go_simp
              try with_reducible rfl
            simp only [Act.put, List.setIfInBounds_toArray, List.set_cons_zero, List.set_cons_succ]
            refine wpAnyB_only (i := 10) (some 74) (Op.call { callee := Callee.value (Operand.func 25), args := #[Operand.tmp 64, Operand.tmp 66, Operand.tmp 67, Operand.tmp 73], argTypes := #[24, 25, 3, 22] }) 45 ⟨_, rfl, rfl, rfl, rfl, rfl⟩ (by kernel_rfl) (fun K hK => ?_)
            unfold bareOp
            go_wp2_with (go_at_call 25; refine (sVerify_any _ hP hQ hG us0 il iu F_p.out (by omega) HPU.out HGOOD.out).mono ?_; rintro e w5 ⟨rfl, hb5⟩)
            replace F_g := Lib.hid (F_g.out.keep hb5)
            replace F_p := Lib.hid (F_p.out.keep hb5)
            replace F_q := Lib.hid (F_q.out.keep hb5)
            replace F_d := Lib.hid (F_d.out.keep hb5)
            replace HBW := Lib.hid (HBW.out.trans (hb5.mono HBW.out.size))
            replace hS := And.intro F_g.out.s (And.intro F_d.out.c0 (And.intro F_d.out.c1 (HCQ.out _ F_q.out)))
            clear hb5
            refine hK.out _ _ (fun _ => hS) ?_
            clear hK K
            try simp only [Act.put, List.setIfInBounds_toArray, List.set_cons_zero, List.set_cons_succ]
            refine wpAnyB_takeP (i := 11) (some 63) (Op.move (Operand.tmp 74)) 45 (v := ?_) ⟨_, rfl, rfl, rfl, rfl, rfl⟩ (by kernel_rfl) (by kernel_rfl) (by kernel_rfl) (by kernel_rfl) (fun _ _ _ h => h) (fun _ => hS) (fun w' => ?_) ?_
            rotate_left
            · unfold bareOp
              go_simp
              try with_reducible rfl
            simp only [Act.put, List.setIfInBounds_toArray, List.set_cons_zero, List.set_cons_succ]
            refine wpAnyB_takeP (i := 12) (some 75) (Op.extract (Operand.tmp 63) 0) 4 (v := ?_) ⟨_, rfl, rfl, rfl, rfl, rfl⟩ (by kernel_rfl) (by kernel_rfl) (by kernel_rfl) (by kernel_rfl) (fun _ _ _ h => h) (fun _ => hS) (fun w' => ?_) ?_
            rotate_left
            · unfold bareOp
              go_simp
              try with_reducible rfl
            simp only [Act.put, List.setIfInBounds_toArray, List.set_cons_zero, List.set_cons_succ]
            refine wpAnyB_takeP (i := 13) (some 76) (Op.extract (Operand.tmp 63) 1) 30 (v := ?_) ⟨_, rfl, rfl, rfl, rfl, rfl⟩ (by kernel_rfl) (by kernel_rfl) (by kernel_rfl) (by kernel_rfl) (fun _ _ _ h => h) (fun _ => hS) (fun w' => ?_) ?_
            rotate_left
            · unfold bareOp
              go_simp
              try with_reducible rfl
            simp only [Act.put, List.setIfInBounds_toArray, List.set_cons_zero, List.set_cons_succ]
            refine wpAnyB_takeP (i := 14) (some 14) (Op.assign (Operand.tmp 75)) 4 (v := ?_) ⟨_, rfl, rfl, rfl, rfl, rfl⟩ (by kernel_rfl) (by kernel_rfl) (by kernel_rfl) (by kernel_rfl) (fun _ _ _ h => h) (fun _ => hS) (fun w' => ?_) ?_
            rotate_left
            · unfold bareOp
              go_simp
              try with_reducible rfl
            simp only [Act.put, List.setIfInBounds_toArray, List.set_cons_zero, List.set_cons_succ]
            refine wpAnyB_only (i := 15) (some 15) (Op.assign (Operand.tmp 76)) 30 ⟨_, rfl, rfl, rfl, rfl, rfl⟩ (by kernel_rfl) (fun K hK => ?_)
            unfold bareOp
            go_wp2_with fail
            refine hK.out _ _ (fun h => absurd (h.symm.trans (by kernel_rfl : _ = true)) (by decide)) ?_
            clear hK K
            try simp only [Act.put, List.setIfInBounds_toArray, List.set_cons_zero, List.set_cons_succ]
            refine wpAnyB_done (by kernel_rfl) ?_ _
            clear hS
            obtain ⟨x0a, x0b, x0c, -⟩ := id F_g.out
            obtain ⟨x3a, x3b, x3c, x3d, -⟩ := id F_d.out
            go_wp2_with fail
            clear x0a x0b x0c x3a x3b x3c x3d
            refine (sVerify_any _ hP hQ hG us il iu F_p.out (by omega) HPU.out HOTHER.out).mono ?_
            rintro e w6 ⟨rfl, hb6⟩
            replace F_g := Lib.hid (F_g.out.keep hb6)
            replace F_p := Lib.hid (F_p.out.keep hb6)
            replace F_q := Lib.hid (F_q.out.keep hb6)
            replace F_d := Lib.hid (F_d.out.keep hb6)
            replace HBW := Lib.hid (HBW.out.trans (hb6.mono HBW.out.size))
            clear hb6
            obtain ⟨x0a, x0b, x0c, -⟩ := id F_g.out
            obtain ⟨x3a, x3b, x3c, x3d, -⟩ := id F_d.out
            go_wp2_with fail
            clear x0a x0b x0c x3a x3b x3c x3d
            replace F_g := Lib.hid F_g.out.drew
            replace F_p := Lib.hid F_p.out.drew
            replace F_q := Lib.hid F_q.out.drew
            replace F_d := Lib.hid F_d.out.drew
            replace HBW := Lib.hid HBW.out.drew
            have hS := And.intro F_g.out.s (And.intro F_d.out.c0 (And.intro F_d.out.c1 (HC0.out _ HBW.out)))
            refine wp_region_stage 11 (fun w' => SBox w' w.heap.size P Q G ∧ w'.cell? ⟨w2.heap.size, 0, none⟩ = some (.slice b1 n e1) ∧ w'.cell? ⟨w2.heap.size, 1, none⟩ = some (.slice (some ⟨s1, f1, none⟩) tn e2) ∧ w'.cell? ⟨s3, f3, none⟩ = some (.int .u64 x0)) (by kernel_rfl) ?_
            refine wpAnyB_take (i := 0) (some 87) (Op.load 24 (Operand.tmp 5)) 24 (v := ?_) ⟨_, rfl, rfl, rfl, rfl, rfl⟩ (by kernel_rfl) (by kernel_rfl) (by kernel_rfl) [6, 7, 8, 9, 10, 11] (by kernel_rfl) (fun _ _ _ h => h) hS (fun w' hSw => ?_) ?_
            rotate_left
            · obtain ⟨⟨z0, z1, z2⟩, z3, z4, z5⟩ := hSw
              unfold bareOp
              go_simp
              try with_reducible rfl
            simp only [Act.put, List.setIfInBounds_toArray, List.set_cons_zero, List.set_cons_succ]
            refine wpAnyB_takeP (i := 1) (some 88) (Op.fieldAddr 27 (Operand.tmp 12) 0) 0 (v := ?_) ⟨_, rfl, rfl, rfl, rfl, rfl⟩ (by kernel_rfl) (by kernel_rfl) (by kernel_rfl) (by kernel_rfl) (fun _ _ _ h => h) (fun _ => hS) (fun w' => ?_) ?_
            rotate_left
            · unfold bareOp
              go_simp
              try with_reducible rfl
            simp only [Act.put, List.setIfInBounds_toArray, List.set_cons_zero, List.set_cons_succ]
            refine wpAnyB_take (i := 2) (some 89) (Op.load 25 (Operand.tmp 88)) 25 (v := ?_) ⟨_, rfl, rfl, rfl, rfl, rfl⟩ (by kernel_rfl) (by kernel_rfl) (by kernel_rfl) [6, 7, 8, 9, 10, 11] (by kernel_rfl) (fun _ _ _ h => h) hS (fun w' hSw => ?_) ?_
            rotate_left
            · obtain ⟨⟨z0, z1, z2⟩, z3, z4, z5⟩ := hSw
              unfold bareOp
              go_simp
              try with_reducible rfl
            simp only [Act.put, List.setIfInBounds_toArray, List.set_cons_zero, List.set_cons_succ]
            refine wpAnyB_takeP (i := 3) (some 90) (Op.move (Operand.tmp 1)) 25 (v := ?_) ⟨_, rfl, rfl, rfl, rfl, rfl⟩ (by kernel_rfl) (by kernel_rfl) (by kernel_rfl) (by kernel_rfl) (fun _ _ _ h => h) (fun _ => hS) (fun w' => ?_) ?_
            rotate_left
            · unfold bareOp
              go_simp
              try with_reducible rfl
            simp only [Act.put, List.setIfInBounds_toArray, List.set_cons_zero, List.set_cons_succ]
            refine wpAnyB_takeP (i := 4) (some 91) (Op.indexAddr 25 (Operand.tmp 90) (Operand.const (Value.int IntKind.i64 0))) 0 (v := ?_) ⟨_, rfl, rfl, rfl, rfl, rfl⟩ (by kernel_rfl) (by kernel_rfl) (by kernel_rfl) (by kernel_rfl) (fun _ _ _ h => h) (fun _ => hS) (fun w' => ?_) ?_
            rotate_left
            · unfold bareOp
              go_simp
              try with_reducible rfl
            simp only [Act.put, List.setIfInBounds_toArray, List.set_cons_zero, List.set_cons_succ]
            refine wpAnyB_take (i := 5) (some 92) (Op.load 22 (Operand.tmp 91)) 22 (v := ?_) ⟨_, rfl, rfl, rfl, rfl, rfl⟩ (by kernel_rfl) (by kernel_rfl) (by kernel_rfl) [6, 7, 8, 9, 10, 11] (by kernel_rfl) (fun _ _ _ h => h) hS (fun w' hSw => ?_) ?_
            rotate_left
            · obtain ⟨⟨z0, z1, z2⟩, z3, z4, z5⟩ := hSw
              unfold bareOp
              go_simp
              try with_reducible rfl
            simp only [Act.put, List.setIfInBounds_toArray, List.set_cons_zero, List.set_cons_succ]
            refine wpAnyB_only (i := 6) (some 93) (Op.call { callee := Callee.value (Operand.func 25), args := #[Operand.tmp 87, Operand.tmp 89, Operand.const (Value.int IntKind.i64 0), Operand.tmp 92], argTypes := #[24, 25, 3, 22] }) 45 ⟨_, rfl, rfl, rfl, rfl, rfl⟩ (by kernel_rfl) (fun K hK => ?_)
            unfold bareOp
            go_wp2_with (go_at_call 25; refine (sVerify_any _ hP hQ hG ux0 (by omega) (by omega) F_p.out (by omega) HPU.out HZERO.out).mono ?_; rintro e w7 ⟨rfl, hb7⟩)
            replace F_g := Lib.hid (F_g.out.keep hb7)
            replace F_p := Lib.hid (F_p.out.keep hb7)
            replace F_q := Lib.hid (F_q.out.keep hb7)
            replace F_d := Lib.hid (F_d.out.keep hb7)
            replace HBW := Lib.hid (HBW.out.trans (hb7.mono HBW.out.size))
            replace hS := And.intro F_g.out.s (And.intro F_d.out.c0 (And.intro F_d.out.c1 (HC0.out _ HBW.out)))
            clear hb7
            refine hK.out _ _ (fun _ => hS) ?_
            clear hK K
            try simp only [Act.put, List.setIfInBounds_toArray, List.set_cons_zero, List.set_cons_succ]
            refine wpAnyB_takeP (i := 7) (some 86) (Op.move (Operand.tmp 93)) 45 (v := ?_) ⟨_, rfl, rfl, rfl, rfl, rfl⟩ (by kernel_rfl) (by kernel_rfl) (by kernel_rfl) (by kernel_rfl) (fun _ _ _ h => h) (fun _ => hS) (fun w' => ?_) ?_
            rotate_left
            · unfold bareOp
              go_simp
              try with_reducible rfl
            simp only [Act.put, List.setIfInBounds_toArray, List.set_cons_zero, List.set_cons_succ]
            refine wpAnyB_takeP (i := 8) (some 94) (Op.extract (Operand.tmp 86) 0) 4 (v := ?_) ⟨_, rfl, rfl, rfl, rfl, rfl⟩ (by kernel_rfl) (by kernel_rfl) (by kernel_rfl) (by kernel_rfl) (fun _ _ _ h => h) (fun _ => hS) (fun w' => ?_) ?_
            rotate_left
            · unfold bareOp
              go_simp
              try with_reducible rfl
            simp only [Act.put, List.setIfInBounds_toArray, List.set_cons_zero, List.set_cons_succ]
            refine wpAnyB_takeP (i := 9) (some 95) (Op.extract (Operand.tmp 86) 1) 30 (v := ?_) ⟨_, rfl, rfl, rfl, rfl, rfl⟩ (by kernel_rfl) (by kernel_rfl) (by kernel_rfl) (by kernel_rfl) (fun _ _ _ h => h) (fun _ => hS) (fun w' => ?_) ?_
            rotate_left
            · unfold bareOp
              go_simp
              try with_reducible rfl
            simp only [Act.put, List.setIfInBounds_toArray, List.set_cons_zero, List.set_cons_succ]
            refine wpAnyB_takeP (i := 10) (some 18) (Op.assign (Operand.tmp 94)) 4 (v := ?_) ⟨_, rfl, rfl, rfl, rfl, rfl⟩ (by kernel_rfl) (by kernel_rfl) (by kernel_rfl) (by kernel_rfl) (fun _ _ _ h => h) (fun _ => hS) (fun w' => ?_) ?_
            rotate_left
            · unfold bareOp
              go_simp
              try with_reducible rfl
            simp only [Act.put, List.setIfInBounds_toArray, List.set_cons_zero, List.set_cons_succ]
            refine wpAnyB_only (i := 11) (some 19) (Op.assign (Operand.tmp 95)) 30 ⟨_, rfl, rfl, rfl, rfl, rfl⟩ (by kernel_rfl) (fun K hK => ?_)
            unfold bareOp
            go_wp2_with fail
            refine hK.out _ _ (fun h => absurd (h.symm.trans (by kernel_rfl : _ = true)) (by decide)) ?_
            clear hK K
            try simp only [Act.put, List.setIfInBounds_toArray, List.set_cons_zero, List.set_cons_succ]
            refine wpAnyB_done (by kernel_rfl) ?_ _
            clear hS
            have hcq := HCQ.out _ F_q.out
            obtain ⟨x0a, x0b, x0c, -⟩ := id F_g.out
            obtain ⟨x3a, x3b, x3c, x3d, -⟩ := id F_d.out
            go_wp2_with fail
            go_ret
            exact ⟨rfl, HBW.out⟩


set_option maxRecDepth 100000 in
theorem lifted (os : Os) (started : os.Started) (H : Type) (enc : TypeId × Value → H) :
    ReturnsInHanded {} Try.checked os 7 .any (Rows.shamirFitsSpec.pre6 enc Try.prog Try.f7 Rows.shamirFitsRow.domain false) (Rows.shamirFitsSpec.post enc Try.prog Try.f7 false true false false) := by
  refine returnsInHanded_of_change (C := Try.checked) own started (by kernel_rfl) Try.func7
    (ChangeSpec.witness6 (enc := enc) (C := Try.checked) false ⟨#[], #[.agg #[.int .u64 0, .int .u64 0, .int .u64 0], .slice none 0 0, .int .i64 0, .int .i64 0, .int .u64 0], []⟩ 8 (by kernel_rfl) (by kernel_rfl) (by kernel_rfl) (by kernel_rfl)) ?_
  intro W base args ds gs before hval0 hW _ _
  have hval : ∀ (j : Nat) t v, Try.f7.params[j]? = some t → args[j]? = some v → Value.okWide Try.prog W .any base t v := hval0
  have hW' := hW
  obtain ⟨p, q, hA0, hV, rfl, hfz, hnd⟩ := hW
  have hA : DataW.TrodAll enc Try.prog W 0 (fun _ => true) true Try.f7.params.toList args.toList ds p := hA0
  rw [Try.params7] at hA hval
  have hK := hA
  obtain ⟨v0, vs0, d0, ds0, p0, q0, hargs, rfl, rfl, h0, r0⟩ := trodAll_cons hA
  obtain ⟨v1, vs1, d1, ds1, p1, q1, rfl, rfl, rfl, h1, r1⟩ := trodAll_cons r0
  obtain ⟨v2, vs2, d2, ds2, p2, q2, rfl, rfl, rfl, h2, r2⟩ := trodAll_cons r1
  obtain ⟨v3, vs3, d3, ds3, p3, q3, rfl, rfl, rfl, h3, r3⟩ := trodAll_cons r2
  obtain ⟨v4, vs4, d4, ds4, p4, q4, rfl, rfl, rfl, h4, r4⟩ := trodAll_cons r3
  obtain ⟨rfl, rfl, rfl⟩ := trodAll_nil r4
  obtain rfl : args = #[v0, v1, v2, v3, v4] := by cases args; simp_all
  obtain ⟨rfl, rfl⟩ := trodVars_none hV
  obtain ⟨P, Q, G, rfl, uP, uQ, uG⟩ := open_group (hval 0 24 v0 rfl rfl) h0
  obtain ⟨a, n, c, xs, rfl, hS, hx, hc, hd⟩ := open_u64s (hval 1 25 v1 rfl rfl) h1
  obtain ⟨t, rfl, tl, tu⟩ := open_i64 (hval 2 3 v2 rfl rfl) h2
  obtain ⟨i, rfl, il, iu⟩ := open_i64 (hval 3 3 v3 rfl rfl) h3
  obtain ⟨s, rfl, us⟩ := open_u64 (hval 4 22 v4 rfl rfl) h4
  clear hA0 hval0
  refine (walk P Q G a n c xs t i s W uP uQ uG hS hx hc hd tl tu il iu us).mono fun e W' ⟨he, bel⟩ => ?_
  subst he
  exact ⟨_, rfl, _, _, _, [], _, [], hW', trodAll_mk1 (shut_bool Try.underlying4 _), trodAll_stays laidOut (by kernel_rfl) hK bel, rfl, bel.frame _, fun h => by cases h⟩

theorem over : Rows.shamirFitsRow.holds Try.pinned (OpenSpec.ofChange Rows.shamirFitsSpec) :=
  OpenClaim.holds_of_wide 7 Try.f7 rfl rfl rfl rfl rfl rfl rfl ⟨rfl, rfl, rfl, rfl, rfl⟩ rfl rfl rfl rfl rfl (by kernel_rfl) Try.func7 (by kernel_rfl)
    (of_decide_eq_true (by kernel_rfl)) (by unfold Func.isWrapper; first | (rw [if_pos (by decide +kernel)]; kernel_rfl) | (rw [if_neg (by decide +kernel)]; exact ⟨rfl, rfl⟩))
    (fun os started H enc _ => lifted os started H enc)

theorem proved : Rows.ShamirFitsSaid := over
#print axioms proved
end Go.Proofs.Ytjfaaicbojnpaaa.lawFits
