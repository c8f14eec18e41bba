/- ShamirJoins: the statement: for every input the law returns true, and the arguments read as before. -/
import Derived.Test.YtjfaaicbojnpaaaShJ
import Derived.Test.YtjfaaicbojnpaaaRows
namespace Go.Proofs.Ytjfaaicbojnpaaa.lawJoins
open Go.ChangeShapes Go.WideShapes Go.ChangeAt Go.RowKit Num
set_option linter.unusedSimpArgs false
set_option linter.unusedVariables false

set_option maxRecDepth 100000 in
set_option maxHeartbeats 12800000 in
theorem walk (P Q G : Int) (a : Option Addr) (n c : Nat) (xs : List Int) (t m : Int) (w : World) (uP : U64 P) (uQ : U64 Q) (uG : U64 G) (hS : ShI .u64 w a n xs) (hx : ∀ x, x ∈ xs → U64 x) (hc : a = none → c = 0) (hd : n ≤ c) (tl : -9223372036854775808 ≤ t) (tu : t ≤ 9223372036854775807) (m0 : 0 ≤ m) (m8 : m < 256) :
    Calls Try.prog 6 #[.agg #[.int .u64 P, .int .u64 Q, .int .u64 G], .slice a n c, .int .i64 t, .int .u8 m] w fun e w' => e = .returned (.bool true) ∧ Below w.heap.size w w' := by
  have hP := uP.1
  have hQ := uQ.1
  have hG := uG.1
  have HS := Lib.hid hS
  have HX := Lib.hid hx
  have HLN := Lib.hid hS.len
  obtain ⟨co, hv⟩ := ValidS.exists P Q G
  obtain ⟨b, ps, ss, hd⟩ : ∃ b ps ss, dealS co P Q G t xs = (b, ps, ss) := ⟨_, _, _, rfl⟩
  have HV := Lib.hid hv
  have HD := Lib.hid hd
  cases b with
  | false =>
    clear hS hx hv hd
    have F_g := Lib.hid (show Boxed (w.alloc (.cells #[.int .u64 P, .int .u64 Q, .int .u64 G] 24)) (w.heap.size) P Q G from Boxed.at _ P Q G _ (w.heap.size) (by simp))
    have HBW := Lib.hid (show Below w.heap.size w (w.alloc (.cells #[.int .u64 P, .int .u64 Q, .int .u64 G] 24)) from (Below.refl _ _).alloc (by simp <;> omega) _)
    go_enter Try.func6, Try.ntmps6
    obtain ⟨x0a, x0b, x0c, -⟩ := id F_g.out
    go_wp2_with fail
    clear x0a x0b x0c
    refine (alive_yes _).mono ?_
    rintro e w1 ⟨rfl, hb1⟩
    replace F_g := Lib.hid (F_g.out.keep hb1)
    replace HBW := Lib.hid (HBW.out.trans (hb1.mono HBW.out.size))
    clear hb1
    obtain ⟨x0a, x0b, x0c, -⟩ := id F_g.out
    go_wp2_with fail
    clear x0a x0b x0c
    refine (deal_any _ hP hQ hG tl tu (HS.out.keep HBW.out) HX.out HV.out HD.out).mono ?_
    rintro e w2 ⟨v1, v2, rfl, ho1, ho2, hb2⟩
    replace F_g := Lib.hid (F_g.out.keep hb2)
    replace HBW := Lib.hid (HBW.out.trans (hb2.mono HBW.out.size))
    clear hb2
    obtain ⟨b1, e1, rfl, hs1⟩ := ho1.shI
    obtain ⟨b2, e2, rfl, hs2⟩ := ho2.shI
    have F_p := Lib.hid hs1
    have F_q := Lib.hid hs2
    clear ho1 ho2 hs1 hs2
    replace F_g := Lib.hid (F_g.out.alloc (.cells #[.slice b1 ps.length e1, .slice b2 ss.length e2] 27))
    replace F_p := Lib.hid (F_p.out.alloc (.cells #[.slice b1 ps.length e1, .slice b2 ss.length e2] 27))
    replace F_q := Lib.hid (F_q.out.alloc (.cells #[.slice b1 ps.length e1, .slice b2 ss.length e2] 27))
    have F_d := Lib.hid (DealBox.at w2 (.slice b1 ps.length e1) (.slice b2 ss.length e2) 27 (w2.heap.size) (by simp))
    replace HBW := Lib.hid (HBW.out.alloc HBW.out.size (.cells #[.slice b1 ps.length e1, .slice b2 ss.length e2] 27))
    obtain ⟨x0a, x0b, x0c, -⟩ := id F_g.out
    obtain ⟨x3a, x3b, x3c, x3d, -⟩ := id F_d.out
    go_wp2_with fail
    go_ret
    exact ⟨rfl, HBW.out⟩
  | true =>
    obtain ⟨hV, hbl, hlt, hnt, hps, hss⟩ := dealS_yes hv hd
    obtain ⟨t0, t8, tQ⟩ := numS_true hnt
    obtain ⟨tn, rfl⟩ : ∃ tn : Nat, t = (tn : Int) := ⟨t.toNat, by omega⟩
    rw [show (tn : Int).toNat = tn by omega] at hss
    obtain ⟨l1, l8, -⟩ := belowS_true hbl
    obtain ⟨p5, p3, _, pq, g2, gP⟩ := id hV.1
    have q3 : Q < 1073741824 := by omega
    have hnn : n = xs.length := HLN.out
    have hn8 : n ≤ 8 := by omega
    have HPL := Lib.hid (show ps.length = n by rw [hps, pledges_len, hnn])
    have HQL := Lib.hid (show ss.length = tn by rw [hss, shares_len])
    have HSS := Lib.hid hss
    have HCL := Lib.hid (chosen_len m (sharesS Q xs tn) tn)
    obtain ⟨il, hil⟩ : ∃ il, (chosenI m tn).length = il := ⟨_, rfl⟩
    have HIL := Lib.hid hil
    have hil8 : il ≤ 8 := by rw [← hil]; have := chosenI_le m tn; omega
    have HI64 := Lib.hid (chosenI_i (m := m) (t := tn) (by omega))
    have HVU := Lib.hid (chosenV_u (Q := Q) (m := m) (xs := xs) (t := tn) (by omega) (by omega))
    by_cases hin : n ≤ il
    case neg =>
      have d1 : decide ((il : Int) < (n : Int)) = true := by simp; omega
      have d1n : decide (il < n) = true := by simp; omega
      clear hS hx hv hd hps hss hnt hbl hV pq hil hnn
      have F_g := Lib.hid (show Boxed (w.alloc (.cells #[.int .u64 P, .int .u64 Q, .int .u64 G] 24)) (w.heap.size) P Q G from Boxed.at _ P Q G _ (w.heap.size) (by simp))
      have HBW := Lib.hid (show Below w.heap.size w (w.alloc (.cells #[.int .u64 P, .int .u64 Q, .int .u64 G] 24)) from (Below.refl _ _).alloc (by simp <;> omega) _)
      go_enter Try.func6, Try.ntmps6
      obtain ⟨x0a, x0b, x0c, -⟩ := id F_g.out
      go_wp2_with fail
      clear x0a x0b x0c
      refine (alive_yes _).mono ?_
      rintro e w1 ⟨rfl, hb1⟩
      replace F_g := Lib.hid (F_g.out.keep hb1)
      replace HBW := Lib.hid (HBW.out.trans (hb1.mono HBW.out.size))
      clear hb1
      obtain ⟨x0a, x0b, x0c, -⟩ := id F_g.out
      go_wp2_with fail
      clear x0a x0b x0c
      refine (deal_any _ hP hQ hG tl tu (HS.out.keep HBW.out) HX.out HV.out HD.out).mono ?_
      rintro e w2 ⟨v1, v2, rfl, ho1, ho2, hb2⟩
      replace F_g := Lib.hid (F_g.out.keep hb2)
      replace HBW := Lib.hid (HBW.out.trans (hb2.mono HBW.out.size))
      clear hb2
      obtain ⟨b1, e1, rfl, hs1⟩ := ho1.shI
      obtain ⟨b2, e2, rfl, hs2⟩ := ho2.shI
      have F_p := Lib.hid hs1
      have F_q := Lib.hid hs2
      clear ho1 ho2 hs1 hs2
      rw [HPL.out] at F_p ⊢
      rw [HQL.out] at F_q ⊢
      replace F_g := Lib.hid (F_g.out.alloc (.cells #[.slice b1 n e1, .slice b2 tn e2] 27))
      replace F_p := Lib.hid (F_p.out.alloc (.cells #[.slice b1 n e1, .slice b2 tn e2] 27))
      replace F_q := Lib.hid (F_q.out.alloc (.cells #[.slice b1 n e1, .slice b2 tn e2] 27))
      have F_d := Lib.hid (DealBox.at w2 (.slice b1 n e1) (.slice b2 tn e2) 27 (w2.heap.size) (by simp))
      replace HBW := Lib.hid (HBW.out.alloc HBW.out.size (.cells #[.slice b1 n e1, .slice b2 tn e2] 27))
      obtain ⟨x0a, x0b, x0c, -⟩ := id F_g.out
      obtain ⟨x3a, x3b, x3c, x3d, -⟩ := id F_d.out
      go_wp2_with fail
      clear x0a x0b x0c x3a x3b x3c x3d
      refine (chosen_any _ F_q.out (by omega) m0 m8).mono ?_
      rintro e w3 ⟨v3, v4, rfl, ho1, ho2, hb3⟩
      replace F_g := Lib.hid (F_g.out.keep hb3)
      replace F_p := Lib.hid (F_p.out.keep hb3)
      replace F_q := Lib.hid (F_q.out.keep hb3)
      replace F_d := Lib.hid (F_d.out.keep hb3)
      replace HBW := Lib.hid (HBW.out.trans (hb3.mono HBW.out.size))
      clear hb3
      obtain ⟨b3, e3, rfl, hs3⟩ := ho1.shI
      obtain ⟨b4, e4, rfl, hs4⟩ := ho2.shI
      have F_i := Lib.hid hs3
      have F_v := Lib.hid hs4
      clear ho1 ho2 hs3 hs4
      rw [HSS.out] at F_v ⊢
      rw [HCL.out] at F_v ⊢
      rw [HIL.out] at F_i F_v ⊢
      obtain ⟨x0a, x0b, x0c, -⟩ := id F_g.out
      obtain ⟨x3a, x3b, x3c, x3d, -⟩ := id F_d.out
      go_wp2_with fail
      go_ret
      exact ⟨rfl, HBW.out⟩
    case pos =>
      have d1 : decide ((il : Int) < (n : Int)) = false := by simp; omega
      have d1n : decide (il < n) = false := by simp; omega
      obtain ⟨x0, hx0⟩ : ∃ x0, xs.getD 0 0 = x0 := ⟨_, rfl⟩
      have HJOIN := Lib.hid (show joinS P Q G (chosenI m tn) (chosenV m (sharesS Q xs tn) tn) = (x0, 0) by
        rw [joins hV hbl (by omega) tQ (by omega), val0_head hbl hx, hx0])
      obtain ⟨s3, f3, ha3, hs3, hc3, -⟩ := HS.out.at 0 (by omega)
      rw [hx0, Nat.add_zero] at hc3
      have HC0 := Lib.hid (show ∀ W', Below w.heap.size w W' → W'.cell? ⟨s3, f3, none⟩ = some (.int .u64 x0) from fun W' h => (h.cell (p := ⟨s3, f3, none⟩) hs3).trans hc3)
      have hn1 : (0 : Int) < (n : Int) := by omega
      have hn1n : 0 < n := by omega
      clear hS hx hv hd hps hss hnt hbl hV pq hil hnn hx0 hc3
      subst ha3
      have F_g := Lib.hid (show Boxed (w.alloc (.cells #[.int .u64 P, .int .u64 Q, .int .u64 G] 24)) (w.heap.size) P Q G from Boxed.at _ P Q G _ (w.heap.size) (by simp))
      have HBW := Lib.hid (show Below w.heap.size w (w.alloc (.cells #[.int .u64 P, .int .u64 Q, .int .u64 G] 24)) from (Below.refl _ _).alloc (by simp <;> omega) _)
      go_enter Try.func6, Try.ntmps6
      obtain ⟨x0a, x0b, x0c, -⟩ := id F_g.out
      go_wp2_with fail
      clear x0a x0b x0c
      refine (alive_yes _).mono ?_
      rintro e w1 ⟨rfl, hb1⟩
      replace F_g := Lib.hid (F_g.out.keep hb1)
      replace HBW := Lib.hid (HBW.out.trans (hb1.mono HBW.out.size))
      clear hb1
      obtain ⟨x0a, x0b, x0c, -⟩ := id F_g.out
      go_wp2_with fail
      clear x0a x0b x0c
      refine (deal_any _ hP hQ hG tl tu (HS.out.keep HBW.out) HX.out HV.out HD.out).mono ?_
      rintro e w2 ⟨v1, v2, rfl, ho1, ho2, hb2⟩
      replace F_g := Lib.hid (F_g.out.keep hb2)
      replace HBW := Lib.hid (HBW.out.trans (hb2.mono HBW.out.size))
      clear hb2
      obtain ⟨b1, e1, rfl, hs1⟩ := ho1.shI
      obtain ⟨b2, e2, rfl, hs2⟩ := ho2.shI
      have F_p := Lib.hid hs1
      have F_q := Lib.hid hs2
      clear ho1 ho2 hs1 hs2
      rw [HPL.out] at F_p ⊢
      rw [HQL.out] at F_q ⊢
      replace F_g := Lib.hid (F_g.out.alloc (.cells #[.slice b1 n e1, .slice b2 tn e2] 27))
      replace F_p := Lib.hid (F_p.out.alloc (.cells #[.slice b1 n e1, .slice b2 tn e2] 27))
      replace F_q := Lib.hid (F_q.out.alloc (.cells #[.slice b1 n e1, .slice b2 tn e2] 27))
      have F_d := Lib.hid (DealBox.at w2 (.slice b1 n e1) (.slice b2 tn e2) 27 (w2.heap.size) (by simp))
      replace HBW := Lib.hid (HBW.out.alloc HBW.out.size (.cells #[.slice b1 n e1, .slice b2 tn e2] 27))
      obtain ⟨x0a, x0b, x0c, -⟩ := id F_g.out
      obtain ⟨x3a, x3b, x3c, x3d, -⟩ := id F_d.out
      go_wp2_with fail
      clear x0a x0b x0c x3a x3b x3c x3d
      refine (chosen_any _ F_q.out (by omega) m0 m8).mono ?_
      rintro e w3 ⟨v3, v4, rfl, ho1, ho2, hb3⟩
      replace F_g := Lib.hid (F_g.out.keep hb3)
      replace F_p := Lib.hid (F_p.out.keep hb3)
      replace F_q := Lib.hid (F_q.out.keep hb3)
      replace F_d := Lib.hid (F_d.out.keep hb3)
      replace HBW := Lib.hid (HBW.out.trans (hb3.mono HBW.out.size))
      clear hb3
      obtain ⟨b3, e3, rfl, hs3⟩ := ho1.shI
      obtain ⟨b4, e4, rfl, hs4⟩ := ho2.shI
      have F_i := Lib.hid hs3
      have F_v := Lib.hid hs4
      clear ho1 ho2 hs3 hs4
      rw [HSS.out] at F_v ⊢
      rw [HCL.out] at F_v ⊢
      rw [HIL.out] at F_i F_v ⊢
      obtain ⟨x0a, x0b, x0c, -⟩ := id F_g.out
      obtain ⟨x3a, x3b, x3c, x3d, -⟩ := id F_d.out
      go_wp2_with fail
      clear x0a x0b x0c x3a x3b x3c x3d
      refine (sJoin_any _ hP hQ hG F_i.out (by omega) HI64.out F_v.out (by omega) HVU.out HJOIN.out).mono ?_
      rintro e w4 ⟨rfl, hb4⟩
      replace F_g := Lib.hid (F_g.out.keep hb4)
      replace F_p := Lib.hid (F_p.out.keep hb4)
      replace F_q := Lib.hid (F_q.out.keep hb4)
      replace F_d := Lib.hid (F_d.out.keep hb4)
      replace F_i := Lib.hid (F_i.out.keep hb4)
      replace F_v := Lib.hid (F_v.out.keep hb4)
      replace HBW := Lib.hid (HBW.out.trans (hb4.mono HBW.out.size))
      clear hb4
      have hc0 := HC0.out _ HBW.out
      obtain ⟨x0a, x0b, x0c, -⟩ := id F_g.out
      obtain ⟨x3a, x3b, x3c, x3d, -⟩ := id F_d.out
      go_wp2_with fail
      clear x0a x0b x0c x3a x3b x3c x3d
      refine (is_yes x0 _).mono ?_
      rintro e w5 ⟨rfl, rfl⟩
      obtain ⟨x0a, x0b, x0c, -⟩ := id F_g.out
      obtain ⟨x3a, x3b, x3c, x3d, -⟩ := id F_d.out
      go_wp2_with fail
      go_ret
      exact ⟨rfl, HBW.out⟩


set_option maxRecDepth 100000 in
theorem lifted (os : Os) (started : os.Started) (H : Type) (enc : TypeId × Value → H) :
    ReturnsInHanded {} Try.checked os 6 .any (Rows.shamirJoinsSpec.pre6 enc Try.prog Try.f6 Rows.shamirJoinsRow.domain false) (Rows.shamirJoinsSpec.post enc Try.prog Try.f6 false true false false) := by
  refine returnsInHanded_of_change (C := Try.checked) own started (by kernel_rfl) Try.func6
    (ChangeSpec.witness6 (enc := enc) (C := Try.checked) false ⟨#[], #[.agg #[.int .u64 0, .int .u64 0, .int .u64 0], .slice none 0 0, .int .i64 0, .int .u8 0], []⟩ 8 (by kernel_rfl) (by kernel_rfl) (by kernel_rfl) (by kernel_rfl)) ?_
  intro W base args ds gs before hval0 hW _ _
  have hval : ∀ (j : Nat) t v, Try.f6.params[j]? = some t → args[j]? = some v → Value.okWide Try.prog W .any base t v := hval0
  have hW' := hW
  obtain ⟨p, q, hA0, hV, rfl, hfz, hnd⟩ := hW
  have hA : DataW.TrodAll enc Try.prog W 0 (fun _ => true) true Try.f6.params.toList args.toList ds p := hA0
  rw [Try.params6] at hA hval
  have hK := hA
  obtain ⟨v0, vs0, d0, ds0, p0, q0, hargs, rfl, rfl, h0, r0⟩ := trodAll_cons hA
  obtain ⟨v1, vs1, d1, ds1, p1, q1, rfl, rfl, rfl, h1, r1⟩ := trodAll_cons r0
  obtain ⟨v2, vs2, d2, ds2, p2, q2, rfl, rfl, rfl, h2, r2⟩ := trodAll_cons r1
  obtain ⟨v3, vs3, d3, ds3, p3, q3, rfl, rfl, rfl, h3, r3⟩ := trodAll_cons r2
  obtain ⟨rfl, rfl, rfl⟩ := trodAll_nil r3
  obtain rfl : args = #[v0, v1, v2, v3] := by cases args; simp_all
  obtain ⟨rfl, rfl⟩ := trodVars_none hV
  obtain ⟨P, Q, G, rfl, uP, uQ, uG⟩ := open_group (hval 0 24 v0 rfl rfl) h0
  obtain ⟨a, n, c, xs, rfl, hS, hx, hc, hd⟩ := open_u64s (hval 1 25 v1 rfl rfl) h1
  obtain ⟨t, rfl, tl, tu⟩ := open_i64 (hval 2 3 v2 rfl rfl) h2
  obtain ⟨m, rfl, m0, m8⟩ := open_u8 (hval 3 5 v3 rfl rfl) h3
  clear hA0 hval0
  refine (walk P Q G a n c xs t m W uP uQ uG hS hx hc hd tl tu m0 m8).mono fun e W' ⟨he, bel⟩ => ?_
  subst he
  exact ⟨_, rfl, _, _, _, [], _, [], hW', trodAll_mk1 (shut_bool Try.underlying4 _), trodAll_stays laidOut (by kernel_rfl) hK bel, rfl, bel.frame _, fun h => by cases h⟩

theorem over : Rows.shamirJoinsRow.holds Try.pinned (OpenSpec.ofChange Rows.shamirJoinsSpec) :=
  OpenClaim.holds_of_wide 6 Try.f6 rfl rfl rfl rfl rfl rfl rfl ⟨rfl, rfl, rfl, rfl, rfl⟩ rfl rfl rfl rfl rfl (by kernel_rfl) Try.func6 (by kernel_rfl)
    (of_decide_eq_true (by kernel_rfl)) (by unfold Func.isWrapper; first | (rw [if_pos (by decide +kernel)]; kernel_rfl) | (rw [if_neg (by decide +kernel)]; exact ⟨rfl, rfl⟩))
    (fun os started H enc _ => lifted os started H enc)

theorem proved : Rows.ShamirJoinsSaid := over
#print axioms proved
end Go.Proofs.Ytjfaaicbojnpaaa.lawJoins
