/- SchnorrResponses: the statement: for every input the law returns true, and the arguments read as before. -/
import Derived.Test.YtanlnhjjdiaphaaSchB
import Derived.Test.YtanlnhjjdiaphaaOpen
import Derived.Test.YtanlnhjjdiaphaaRows
namespace Go.Proofs.Ytanlnhjjdiaphaa.lawResponses
open Go.ChangeShapes Go.WideShapes Go.ChangeAt Go.RowKit Num
set_option linter.unusedSimpArgs false
set_option linter.unusedVariables false

set_option maxRecDepth 100000 in
set_option maxHeartbeats 12800000 in
theorem walk (P Q G x k c s y r : Int) (w : World) (uP : U64 P) (uQ : U64 Q) (uG : U64 G) (ux : U64 x) (uk : U64 k) (uc : U64 c) (us : U64 s) (uy : U64 y) (ur : U64 r) :
    Calls Try.prog 3 #[.agg #[.int .u64 P, .int .u64 Q, .int .u64 G], .int .u64 x, .int .u64 k, .int .u64 c, .int .u64 s, .int .u64 y, .int .u64 r] w fun e w' => e = .returned (.bool true) ∧ Below w.heap.size w w' := by
  have hP := uP.1
  have hQ := uQ.1
  have hG := uG.1
  have hx := ux.1
  have hk := uk.1
  have hc := uc.1
  have hs := us.1
  have hy := uy.1
  have hr := ur.1
  obtain ⟨a, e1, h_⟩ := RetS.exists (keyS P Q G x) (powm G x P)
  have H1 := Lib.hid h_
  clear h_
  obtain ⟨b, e2, h_⟩ := RetS.exists (askS P Q G [x, k, c] []) ((k + c * x % Q) % Q)
  have H2 := Lib.hid h_
  clear h_
  obtain ⟨v3, e3, h_⟩ := RetB.exists (askS P Q G [c, s] [y, r]) (powm G s P = r * powm y c P % P)
  have H3 := Lib.hid h_
  clear h_
  obtain ⟨d, e4, h_⟩ := ExtS.exists P Q G x k c s
  have H4 := Lib.hid h_
  clear h_
  have F_g := Lib.hid (show Boxed (w.alloc (.cells #[.int .u64 P, .int .u64 Q, .int .u64 G] 24)) (w.heap.size) P Q G from Boxed.at _ P Q G _ (w.heap.size) (by simp))
  have HBW := Lib.hid (show Below w.heap.size w (w.alloc (.cells #[.int .u64 P, .int .u64 Q, .int .u64 G] 24)) from (Below.refl _ _).alloc (by simp <;> omega) _)
  go_enter Try.func3, Try.ntmps3
  obtain ⟨x0a, x0b, x0c, -⟩ := id F_g.out
  go_wp2_with fail
  clear x0a x0b x0c
  refine (spk_any _ hP hQ hG ux H1.out).mono ?_
  rintro e w1 ⟨rfl, hb1⟩
  replace F_g := Lib.hid (F_g.out.keep hb1)
  replace HBW := Lib.hid (HBW.out.trans (hb1.mono HBW.out.size))
  clear hb1
  obtain ⟨x0a, x0b, x0c, -⟩ := id F_g.out
  go_wp2_with fail
  clear x0a x0b x0c
  refine (rpk_any _ hP hQ hG ux H1.out).mono ?_
  rintro e w2 ⟨rfl, hb2⟩
  replace F_g := Lib.hid (F_g.out.keep hb2)
  replace HBW := Lib.hid (HBW.out.trans (hb2.mono HBW.out.size))
  clear hb2
  obtain ⟨x0a, x0b, x0c, -⟩ := id F_g.out
  go_wp2_with fail
  clear x0a x0b x0c
  refine (srespond_any _ hP hQ hG hx hk hc H2.out).mono ?_
  rintro e w3 ⟨rfl, hb3⟩
  replace F_g := Lib.hid (F_g.out.keep hb3)
  replace HBW := Lib.hid (HBW.out.trans (hb3.mono HBW.out.size))
  clear hb3
  obtain ⟨x0a, x0b, x0c, -⟩ := id F_g.out
  go_wp2_with fail
  clear x0a x0b x0c
  refine (rrespond_any _ hP hQ hG hx hk hc H2.out).mono ?_
  rintro e w4 ⟨rfl, hb4⟩
  replace F_g := Lib.hid (F_g.out.keep hb4)
  replace HBW := Lib.hid (HBW.out.trans (hb4.mono HBW.out.size))
  clear hb4
  obtain ⟨x0a, x0b, x0c, -⟩ := id F_g.out
  go_wp2_with fail
  clear x0a x0b x0c
  refine (sholds_any _ hP hQ hG hy hr hc hs H3.out).mono ?_
  rintro e w5 ⟨rfl, hb5⟩
  replace F_g := Lib.hid (F_g.out.keep hb5)
  replace HBW := Lib.hid (HBW.out.trans (hb5.mono HBW.out.size))
  clear hb5
  obtain ⟨x0a, x0b, x0c, -⟩ := id F_g.out
  go_wp2_with fail
  clear x0a x0b x0c
  refine (rholds_any _ hP hQ hG hy hr hc hs H3.out).mono ?_
  rintro e w6 ⟨rfl, hb6⟩
  replace F_g := Lib.hid (F_g.out.keep hb6)
  replace HBW := Lib.hid (HBW.out.trans (hb6.mono HBW.out.size))
  clear hb6
  obtain ⟨x0a, x0b, x0c, -⟩ := id F_g.out
  go_wp2_with fail
  clear x0a x0b x0c
  refine (sextract_any _ hP hQ hG hx hk hc hs H4.out).mono ?_
  rintro e w7 ⟨rfl, hb7⟩
  replace F_g := Lib.hid (F_g.out.keep hb7)
  replace HBW := Lib.hid (HBW.out.trans (hb7.mono HBW.out.size))
  clear hb7
  obtain ⟨x0a, x0b, x0c, -⟩ := id F_g.out
  go_wp2_with fail
  clear x0a x0b x0c
  refine (rextract_any _ hP hQ hG hx hk hc hs H4.out).mono ?_
  rintro e w8 ⟨rfl, hb8⟩
  replace F_g := Lib.hid (F_g.out.keep hb8)
  replace HBW := Lib.hid (HBW.out.trans (hb8.mono HBW.out.size))
  clear hb8
  obtain ⟨x0a, x0b, x0c, -⟩ := id F_g.out
  go_wp2_with fail
  go_ret
  exact ⟨rfl, HBW.out⟩


set_option maxRecDepth 100000 in
theorem lifted (os : Os) (started : os.Started) (H : Type) (enc : TypeId × Value → H) :
    ReturnsInHanded {} Try.checked os 3 .any (Rows.schnorrResponsesSpec.pre6 enc Try.prog Try.f3 Rows.schnorrResponsesRow.domain false) (Rows.schnorrResponsesSpec.post enc Try.prog Try.f3 false true false false) := by
  refine returnsInHanded_of_change (C := Try.checked) own started (by kernel_rfl) Try.func3
    (ChangeSpec.witness6 (enc := enc) (C := Try.checked) false ⟨#[], #[.agg #[.int .u64 0, .int .u64 0, .int .u64 0], .int .u64 0, .int .u64 0, .int .u64 0, .int .u64 0, .int .u64 0, .int .u64 0], []⟩ 8 (by kernel_rfl) (by kernel_rfl) (by kernel_rfl) (by kernel_rfl)) ?_
  intro W base args ds gs before hval0 hW _ _
  have hval : ∀ (j : Nat) t v, Try.f3.params[j]? = some t → args[j]? = some v → Value.okWide Try.prog W .any base t v := hval0
  have hW' := hW
  obtain ⟨p, q, hA0, hV, rfl, hfz, hnd⟩ := hW
  have hA : DataW.TrodAll enc Try.prog W 0 (fun _ => true) true Try.f3.params.toList args.toList ds p := hA0
  rw [Try.params3] at hA hval
  have hK := hA
  obtain ⟨v0, vs0, d0, ds0, p0, q0, hargs, rfl, rfl, h0, r0⟩ := trodAll_cons hA
  obtain ⟨v1, vs1, d1, ds1, p1, q1, rfl, rfl, rfl, h1, r1⟩ := trodAll_cons r0
  obtain ⟨v2, vs2, d2, ds2, p2, q2, rfl, rfl, rfl, h2, r2⟩ := trodAll_cons r1
  obtain ⟨v3, vs3, d3, ds3, p3, q3, rfl, rfl, rfl, h3, r3⟩ := trodAll_cons r2
  obtain ⟨v4, vs4, d4, ds4, p4, q4, rfl, rfl, rfl, h4, r4⟩ := trodAll_cons r3
  obtain ⟨v5, vs5, d5, ds5, p5, q5, rfl, rfl, rfl, h5, r5⟩ := trodAll_cons r4
  obtain ⟨v6, vs6, d6, ds6, p6, q6, rfl, rfl, rfl, h6, r6⟩ := trodAll_cons r5
  obtain ⟨rfl, rfl, rfl⟩ := trodAll_nil r6
  obtain rfl : args = #[v0, v1, v2, v3, v4, v5, v6] := by cases args; simp_all
  obtain ⟨rfl, rfl⟩ := trodVars_none hV
  obtain ⟨P, Q, G, rfl, uP, uQ, uG⟩ := open_group (hval 0 24 v0 rfl rfl) h0
  obtain ⟨x, rfl, ux⟩ := open_u64 (hval 1 22 v1 rfl rfl) h1
  obtain ⟨k, rfl, uk⟩ := open_u64 (hval 2 22 v2 rfl rfl) h2
  obtain ⟨c, rfl, uc⟩ := open_u64 (hval 3 22 v3 rfl rfl) h3
  obtain ⟨s, rfl, us⟩ := open_u64 (hval 4 22 v4 rfl rfl) h4
  obtain ⟨y, rfl, uy⟩ := open_u64 (hval 5 22 v5 rfl rfl) h5
  obtain ⟨r, rfl, ur⟩ := open_u64 (hval 6 22 v6 rfl rfl) h6
  clear hA0 hval0
  refine (walk P Q G x k c s y r W uP uQ uG ux uk uc us uy ur).mono fun e W' ⟨he, bel⟩ => ?_
  subst he
  exact ⟨_, rfl, _, _, _, [], _, [], hW', trodAll_mk1 (shut_bool Try.underlying4 _), trodAll_stays laidOut (by kernel_rfl) hK bel, rfl, bel.frame _, fun h => by cases h⟩

theorem over : Rows.schnorrResponsesRow.holds Try.pinned (OpenSpec.ofChange Rows.schnorrResponsesSpec) :=
  OpenClaim.holds_of_wide 3 Try.f3 rfl rfl rfl rfl rfl rfl rfl ⟨rfl, rfl, rfl, rfl, rfl⟩ rfl rfl rfl rfl rfl (by kernel_rfl) Try.func3 (by kernel_rfl)
    (of_decide_eq_true (by kernel_rfl)) (by unfold Func.isWrapper; first | (rw [if_pos (by decide +kernel)]; kernel_rfl) | (rw [if_neg (by decide +kernel)]; exact ⟨rfl, rfl⟩))
    (fun os started H enc _ => lifted os started H enc)

theorem proved : Rows.SchnorrResponsesSaid := over
#print axioms proved
end Go.Proofs.Ytanlnhjjdiaphaa.lawResponses
