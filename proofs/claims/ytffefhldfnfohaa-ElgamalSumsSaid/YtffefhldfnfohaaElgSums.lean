/- ElgamalSums: the statement: for every input the law returns true, and the arguments read as before. -/
import Derived.Test.YtffefhldfnfohaaElgGen
import Derived.Test.YtffefhldfnfohaaSumRE
import Derived.Test.YtffefhldfnfohaaOpenL
import Derived.Test.YtffefhldfnfohaaRows
namespace Go.Proofs.Ytffefhldfnfohaa.lawSums
open Go.ChangeShapes Go.WideShapes Go.ChangeAt Go.RowKit Num
set_option linter.unusedSimpArgs false
set_option linter.unusedVariables false

set_option maxRecDepth 100000 in
set_option maxHeartbeats 12800000 in
theorem walk (P Q G a b c d : Int) (la : Option Addr) (ln lc : Nat) (ps : List (Int × Int)) (w : World) (uP : U64 P) (uQ : U64 Q) (uG : U64 G) (ua : U64 a) (ub : U64 b) (uc : U64 c) (ud : U64 d) (hS : ShS w la ln ps) (hN : ∀ q, q ∈ ps → U64 q.1 ∧ U64 q.2) (hc : la = none → lc = 0) :
    Calls Try.prog 3 #[.agg #[.int .u64 P, .int .u64 Q, .int .u64 G], .agg #[.int .u64 a, .int .u64 b], .agg #[.int .u64 c, .int .u64 d], .slice la ln lc] w fun e w' => e = .returned (.bool true) ∧ Below w.heap.size w w' := by
  have hP := uP.1
  have hQ := uQ.1
  have hG := uG.1
  have ha := ua.1
  have hb := ub.1
  have hd := ud.1
  have hc0 := uc.1
  have HS := Lib.hid hS
  have HN := Lib.hid (show ∀ p, p ∈ ps → 0 ≤ p.1 ∧ 0 ≤ p.2 from fun p hp => ⟨(hN p hp).1.1, (hN p hp).2.1⟩)
  obtain ⟨u1, v1, e1, hA⟩ := AddS.exists P Q G a b c d
  obtain ⟨u2, v2, e2, hM⟩ := SumS.exists P Q G ps
  have HA := Lib.hid hA
  have HM := Lib.hid hM
  clear hS hN hA hM
  cases hg : greatS ln with
  | true =>
    have HGR := Lib.hid hg
    clear hg
    have F_g := Lib.hid (show Boxed (((w.alloc (.cells #[.int .u64 P, .int .u64 Q, .int .u64 G] 24)).alloc (.cells #[.int .u64 a, .int .u64 b] 26)).alloc (.cells #[.int .u64 c, .int .u64 d] 26)) (w.heap.size) P Q G from ((Boxed.at _ P Q G _ (w.heap.size) (by simp)).alloc _).alloc _)
    have F_a := Lib.hid (show Pair (((w.alloc (.cells #[.int .u64 P, .int .u64 Q, .int .u64 G] 24)).alloc (.cells #[.int .u64 a, .int .u64 b] 26)).alloc (.cells #[.int .u64 c, .int .u64 d] 26)) (w.heap.size + 1) a b from (Pair.at _ a b _ (w.heap.size + 1) (by simp)).alloc _)
    have F_b := Lib.hid (show Pair (((w.alloc (.cells #[.int .u64 P, .int .u64 Q, .int .u64 G] 24)).alloc (.cells #[.int .u64 a, .int .u64 b] 26)).alloc (.cells #[.int .u64 c, .int .u64 d] 26)) (w.heap.size + 1 + 1) c d from Pair.at _ c d _ (w.heap.size + 1 + 1) (by simp))
    have HBW := Lib.hid (show Below w.heap.size w (((w.alloc (.cells #[.int .u64 P, .int .u64 Q, .int .u64 G] 24)).alloc (.cells #[.int .u64 a, .int .u64 b] 26)).alloc (.cells #[.int .u64 c, .int .u64 d] 26)) from (((Below.refl _ _).alloc (by simp <;> omega) _).alloc (by simp <;> omega) _).alloc (by simp <;> omega) _)
    go_enter Try.func3, Try.ntmps3
    obtain ⟨x0a, x0b, x0c, -⟩ := id F_g.out
    obtain ⟨x1a, x1b, x1c, x1d, -⟩ := id F_a.out
    obtain ⟨x2a, x2b, x2c, x2d, -⟩ := id F_b.out
    go_wp2_with fail
    clear x0a x0b x0c x1a x1b x1c x1d x2a x2b x2c x2d
    refine (sgreat_any _ HGR.out).mono ?_
    rintro e w1 ⟨rfl, rfl⟩
    obtain ⟨x0a, x0b, x0c, -⟩ := id F_g.out
    obtain ⟨x1a, x1b, x1c, x1d, -⟩ := id F_a.out
    obtain ⟨x2a, x2b, x2c, x2d, -⟩ := id F_b.out
    go_wp2_with fail
    go_ret
    exact ⟨rfl, HBW.out⟩
  | false =>
    have HGR := Lib.hid hg
    have hn : ln ≤ 10000 := by simp [greatS] at hg; omega
    clear hg
    have F_g := Lib.hid (show Boxed (((w.alloc (.cells #[.int .u64 P, .int .u64 Q, .int .u64 G] 24)).alloc (.cells #[.int .u64 a, .int .u64 b] 26)).alloc (.cells #[.int .u64 c, .int .u64 d] 26)) (w.heap.size) P Q G from ((Boxed.at _ P Q G _ (w.heap.size) (by simp)).alloc _).alloc _)
    have F_a := Lib.hid (show Pair (((w.alloc (.cells #[.int .u64 P, .int .u64 Q, .int .u64 G] 24)).alloc (.cells #[.int .u64 a, .int .u64 b] 26)).alloc (.cells #[.int .u64 c, .int .u64 d] 26)) (w.heap.size + 1) a b from (Pair.at _ a b _ (w.heap.size + 1) (by simp)).alloc _)
    have F_b := Lib.hid (show Pair (((w.alloc (.cells #[.int .u64 P, .int .u64 Q, .int .u64 G] 24)).alloc (.cells #[.int .u64 a, .int .u64 b] 26)).alloc (.cells #[.int .u64 c, .int .u64 d] 26)) (w.heap.size + 1 + 1) c d from Pair.at _ c d _ (w.heap.size + 1 + 1) (by simp))
    have HBW := Lib.hid (show Below w.heap.size w (((w.alloc (.cells #[.int .u64 P, .int .u64 Q, .int .u64 G] 24)).alloc (.cells #[.int .u64 a, .int .u64 b] 26)).alloc (.cells #[.int .u64 c, .int .u64 d] 26)) from (((Below.refl _ _).alloc (by simp <;> omega) _).alloc (by simp <;> omega) _).alloc (by simp <;> omega) _)
    go_enter Try.func3, Try.ntmps3
    obtain ⟨x0a, x0b, x0c, -⟩ := id F_g.out
    obtain ⟨x1a, x1b, x1c, x1d, -⟩ := id F_a.out
    obtain ⟨x2a, x2b, x2c, x2d, -⟩ := id F_b.out
    go_wp2_with fail
    clear x0a x0b x0c x1a x1b x1c x1d x2a x2b x2c x2d
    refine (sgreat_any _ HGR.out).mono ?_
    rintro e w1 ⟨rfl, rfl⟩
    obtain ⟨x0a, x0b, x0c, -⟩ := id F_g.out
    obtain ⟨x1a, x1b, x1c, x1d, -⟩ := id F_a.out
    obtain ⟨x2a, x2b, x2c, x2d, -⟩ := id F_b.out
    go_wp2_with fail
    clear x0a x0b x0c x1a x1b x1c x1d x2a x2b x2c x2d
    refine (stwin_any _ (HS.out.keep HBW.out) hc hn).mono ?_
    rintro e w1 ⟨oa, oc, rfl, hO, hb1⟩
    replace F_g := Lib.hid (F_g.out.keep hb1)
    replace F_a := Lib.hid (F_a.out.keep hb1)
    replace F_b := Lib.hid (F_b.out.keep hb1)
    replace HBW := Lib.hid (HBW.out.trans (hb1.mono HBW.out.size))
    have F_own := Lib.hid hO
    clear hb1 hO
    obtain ⟨x0a, x0b, x0c, -⟩ := id F_g.out
    obtain ⟨x1a, x1b, x1c, x1d, -⟩ := id F_a.out
    obtain ⟨x2a, x2b, x2c, x2d, -⟩ := id F_b.out
    go_wp2_with fail
    clear x0a x0b x0c x1a x1b x1c x1d x2a x2b x2c x2d
    refine (eAdd_gen _ hP hQ hG ha hb hc0 hd HA.out).mono ?_
    rintro e w2 ⟨rfl, hb2⟩
    replace F_g := Lib.hid (F_g.out.keep hb2)
    replace F_a := Lib.hid (F_a.out.keep hb2)
    replace F_b := Lib.hid (F_b.out.keep hb2)
    replace F_own := Lib.hid (F_own.out.keep hb2)
    replace HBW := Lib.hid (HBW.out.trans (hb2.mono HBW.out.size))
    clear hb2
    replace F_g := Lib.hid (F_g.out.alloc (.cells #[.int .u64 u1, .int .u64 v1] 26))
    replace F_a := Lib.hid (F_a.out.alloc (.cells #[.int .u64 u1, .int .u64 v1] 26))
    replace F_b := Lib.hid (F_b.out.alloc (.cells #[.int .u64 u1, .int .u64 v1] 26))
    replace F_own := Lib.hid (F_own.out.alloc (.cells #[.int .u64 u1, .int .u64 v1] 26))
    have F_x1 := Lib.hid (Pair.new w2 u1 v1 26)
    replace HBW := Lib.hid (HBW.out.alloc HBW.out.size (.cells #[.int .u64 u1, .int .u64 v1] 26))
    obtain ⟨x0a, x0b, x0c, -⟩ := id F_g.out
    obtain ⟨x1a, x1b, x1c, x1d, -⟩ := id F_a.out
    obtain ⟨x2a, x2b, x2c, x2d, -⟩ := id F_b.out
    obtain ⟨x4a, x4b, x4c, x4d, -⟩ := id F_x1.out
    go_wp2_with fail
    clear x0a x0b x0c x1a x1b x1c x1d x2a x2b x2c x2d x4a x4b x4c x4d
    refine (rAdd_gen _ hP hQ hG ha hb hc0 hd HA.out).mono ?_
    rintro e w3 ⟨rfl, hb3⟩
    replace F_g := Lib.hid (F_g.out.keep hb3)
    replace F_a := Lib.hid (F_a.out.keep hb3)
    replace F_b := Lib.hid (F_b.out.keep hb3)
    replace F_own := Lib.hid (F_own.out.keep hb3)
    replace F_x1 := Lib.hid (F_x1.out.keep hb3)
    replace HBW := Lib.hid (HBW.out.trans (hb3.mono HBW.out.size))
    clear hb3
    replace F_g := Lib.hid (F_g.out.alloc (.cells #[.int .u64 u1, .int .u64 v1] 26))
    replace F_a := Lib.hid (F_a.out.alloc (.cells #[.int .u64 u1, .int .u64 v1] 26))
    replace F_b := Lib.hid (F_b.out.alloc (.cells #[.int .u64 u1, .int .u64 v1] 26))
    replace F_own := Lib.hid (F_own.out.alloc (.cells #[.int .u64 u1, .int .u64 v1] 26))
    replace F_x1 := Lib.hid (F_x1.out.alloc (.cells #[.int .u64 u1, .int .u64 v1] 26))
    have F_x2 := Lib.hid (Pair.new w3 u1 v1 26)
    replace HBW := Lib.hid (HBW.out.alloc HBW.out.size (.cells #[.int .u64 u1, .int .u64 v1] 26))
    obtain ⟨x0a, x0b, x0c, -⟩ := id F_g.out
    obtain ⟨x1a, x1b, x1c, x1d, -⟩ := id F_a.out
    obtain ⟨x2a, x2b, x2c, x2d, -⟩ := id F_b.out
    obtain ⟨x4a, x4b, x4c, x4d, -⟩ := id F_x1.out
    obtain ⟨x5a, x5b, x5c, x5d, -⟩ := id F_x2.out
    go_wp2_with fail
    clear x0a x0b x0c x1a x1b x1c x1d x2a x2b x2c x2d x4a x4b x4c x4d x5a x5b x5c x5d
    refine (esum_any _ hP hQ hG F_own.out HN.out HM.out).mono ?_
    rintro e w4 ⟨rfl, hb4⟩
    replace F_g := Lib.hid (F_g.out.keep hb4)
    replace F_a := Lib.hid (F_a.out.keep hb4)
    replace F_b := Lib.hid (F_b.out.keep hb4)
    replace F_own := Lib.hid (F_own.out.keep hb4)
    replace F_x1 := Lib.hid (F_x1.out.keep hb4)
    replace F_x2 := Lib.hid (F_x2.out.keep hb4)
    replace HBW := Lib.hid (HBW.out.trans (hb4.mono HBW.out.size))
    clear hb4
    replace F_g := Lib.hid (F_g.out.alloc (.cells #[.int .u64 u2, .int .u64 v2] 26))
    replace F_a := Lib.hid (F_a.out.alloc (.cells #[.int .u64 u2, .int .u64 v2] 26))
    replace F_b := Lib.hid (F_b.out.alloc (.cells #[.int .u64 u2, .int .u64 v2] 26))
    replace F_own := Lib.hid (F_own.out.alloc (.cells #[.int .u64 u2, .int .u64 v2] 26))
    replace F_x1 := Lib.hid (F_x1.out.alloc (.cells #[.int .u64 u2, .int .u64 v2] 26))
    replace F_x2 := Lib.hid (F_x2.out.alloc (.cells #[.int .u64 u2, .int .u64 v2] 26))
    have F_x3 := Lib.hid (Pair.new w4 u2 v2 26)
    replace HBW := Lib.hid (HBW.out.alloc HBW.out.size (.cells #[.int .u64 u2, .int .u64 v2] 26))
    obtain ⟨x0a, x0b, x0c, -⟩ := id F_g.out
    obtain ⟨x1a, x1b, x1c, x1d, -⟩ := id F_a.out
    obtain ⟨x2a, x2b, x2c, x2d, -⟩ := id F_b.out
    obtain ⟨x4a, x4b, x4c, x4d, -⟩ := id F_x1.out
    obtain ⟨x5a, x5b, x5c, x5d, -⟩ := id F_x2.out
    obtain ⟨x6a, x6b, x6c, x6d, -⟩ := id F_x3.out
    go_wp2_with fail
    clear x0a x0b x0c x1a x1b x1c x1d x2a x2b x2c x2d x4a x4b x4c x4d x5a x5b x5c x5d x6a x6b x6c x6d
    refine (rsum_any _ hP hQ hG (HS.out.keep HBW.out) HN.out HM.out).mono ?_
    rintro e w5 ⟨rfl, hb5⟩
    replace F_g := Lib.hid (F_g.out.keep hb5)
    replace F_a := Lib.hid (F_a.out.keep hb5)
    replace F_b := Lib.hid (F_b.out.keep hb5)
    replace F_own := Lib.hid (F_own.out.keep hb5)
    replace F_x1 := Lib.hid (F_x1.out.keep hb5)
    replace F_x2 := Lib.hid (F_x2.out.keep hb5)
    replace F_x3 := Lib.hid (F_x3.out.keep hb5)
    replace HBW := Lib.hid (HBW.out.trans (hb5.mono HBW.out.size))
    clear hb5
    replace F_g := Lib.hid (F_g.out.alloc (.cells #[.int .u64 u2, .int .u64 v2] 26))
    replace F_a := Lib.hid (F_a.out.alloc (.cells #[.int .u64 u2, .int .u64 v2] 26))
    replace F_b := Lib.hid (F_b.out.alloc (.cells #[.int .u64 u2, .int .u64 v2] 26))
    replace F_own := Lib.hid (F_own.out.alloc (.cells #[.int .u64 u2, .int .u64 v2] 26))
    replace F_x1 := Lib.hid (F_x1.out.alloc (.cells #[.int .u64 u2, .int .u64 v2] 26))
    replace F_x2 := Lib.hid (F_x2.out.alloc (.cells #[.int .u64 u2, .int .u64 v2] 26))
    replace F_x3 := Lib.hid (F_x3.out.alloc (.cells #[.int .u64 u2, .int .u64 v2] 26))
    have F_x4 := Lib.hid (Pair.new w5 u2 v2 26)
    replace HBW := Lib.hid (HBW.out.alloc HBW.out.size (.cells #[.int .u64 u2, .int .u64 v2] 26))
    obtain ⟨x0a, x0b, x0c, -⟩ := id F_g.out
    obtain ⟨x1a, x1b, x1c, x1d, -⟩ := id F_a.out
    obtain ⟨x2a, x2b, x2c, x2d, -⟩ := id F_b.out
    obtain ⟨x4a, x4b, x4c, x4d, -⟩ := id F_x1.out
    obtain ⟨x5a, x5b, x5c, x5d, -⟩ := id F_x2.out
    obtain ⟨x6a, x6b, x6c, x6d, -⟩ := id F_x3.out
    obtain ⟨x7a, x7b, x7c, x7d, -⟩ := id F_x4.out
    go_wp2_with fail
    clear x0a x0b x0c x1a x1b x1c x1d x2a x2b x2c x2d x4a x4b x4c x4d x5a x5b x5c x5d x6a x6b x6c x6d x7a x7b x7c x7d
    refine (ssame_any _ F_own.out (HS.out.keep HBW.out) hn).mono ?_
    rintro e w6 ⟨rfl, hb6⟩
    replace F_g := Lib.hid (F_g.out.keep hb6)
    replace F_a := Lib.hid (F_a.out.keep hb6)
    replace F_b := Lib.hid (F_b.out.keep hb6)
    replace F_own := Lib.hid (F_own.out.keep hb6)
    replace F_x1 := Lib.hid (F_x1.out.keep hb6)
    replace F_x2 := Lib.hid (F_x2.out.keep hb6)
    replace F_x3 := Lib.hid (F_x3.out.keep hb6)
    replace F_x4 := Lib.hid (F_x4.out.keep hb6)
    replace HBW := Lib.hid (HBW.out.trans (hb6.mono HBW.out.size))
    clear hb6
    obtain ⟨x0a, x0b, x0c, -⟩ := id F_g.out
    obtain ⟨x1a, x1b, x1c, x1d, -⟩ := id F_a.out
    obtain ⟨x2a, x2b, x2c, x2d, -⟩ := id F_b.out
    obtain ⟨x4a, x4b, x4c, x4d, -⟩ := id F_x1.out
    obtain ⟨x5a, x5b, x5c, x5d, -⟩ := id F_x2.out
    obtain ⟨x6a, x6b, x6c, x6d, -⟩ := id F_x3.out
    obtain ⟨x7a, x7b, x7c, x7d, -⟩ := id F_x4.out
    go_wp2_with fail
    go_ret
    exact ⟨rfl, HBW.out⟩


set_option maxRecDepth 100000 in
theorem lifted (os : Os) (started : os.Started) (H : Type) (enc : TypeId × Value → H) :
    ReturnsInHanded {} Try.checked os 3 .any (Rows.elgamalSumsSpec.pre6 enc Try.prog Try.f3 Rows.elgamalSumsRow.domain false) (Rows.elgamalSumsSpec.post enc Try.prog Try.f3 false true false false) := by
  refine returnsInHanded_of_change (C := Try.checked) own started (by kernel_rfl) Try.func3
    (ChangeSpec.witness6 (enc := enc) (C := Try.checked) false ⟨#[], #[.agg #[.int .u64 0, .int .u64 0, .int .u64 0], .agg #[.int .u64 0, .int .u64 0], .agg #[.int .u64 0, .int .u64 0], .slice none 0 0], []⟩ 8 (by kernel_rfl) (by kernel_rfl) (by kernel_rfl) (by kernel_rfl)) ?_
  intro W base args ds gs before hval0 hW _ _
  have hval : ∀ (j : Nat) t v, Try.f3.params[j]? = some t → args[j]? = some v → Value.okWide Try.prog W .any base t v := hval0
  have hW' := hW
  obtain ⟨p, q, hA0, hV, rfl, hfz, hnd⟩ := hW
  have hA : DataW.TrodAll enc Try.prog W 0 (fun _ => true) true Try.f3.params.toList args.toList ds p := hA0
  rw [Try.params3] at hA hval
  have hK := hA
  obtain ⟨v0, vs0, d0, ds0, p0, q0, hargs, rfl, rfl, h0, r0⟩ := trodAll_cons hA
  obtain ⟨v1, vs1, d1, ds1, p1, q1, rfl, rfl, rfl, h1, r1⟩ := trodAll_cons r0
  obtain ⟨v2, vs2, d2, ds2, p2, q2, rfl, rfl, rfl, h2, r2⟩ := trodAll_cons r1
  obtain ⟨v3, vs3, d3, ds3, p3, q3, rfl, rfl, rfl, h3, r3⟩ := trodAll_cons r2
  obtain ⟨rfl, rfl, rfl⟩ := trodAll_nil r3
  obtain rfl : args = #[v0, v1, v2, v3] := by cases args; simp_all
  obtain ⟨rfl, rfl⟩ := trodVars_none hV
  obtain ⟨P, Q, G, rfl, uP, uQ, uG⟩ := open_group (hval 0 24 v0 rfl rfl) h0
  obtain ⟨a, b, rfl, ua, ub⟩ := open_sealed (hval 1 26 v1 rfl rfl) h1
  obtain ⟨c, d, rfl, uc, ud⟩ := open_sealed (hval 2 26 v2 rfl rfl) h2
  obtain ⟨la, ln, lc, ps, rfl, hS, hN, hc⟩ := open_sealeds (hval 3 27 v3 rfl rfl) h3
  clear hA0 hval0
  refine (walk P Q G a b c d la ln lc ps W uP uQ uG ua ub uc ud hS hN hc).mono fun e W' ⟨he, bel⟩ => ?_
  subst he
  exact ⟨_, rfl, _, _, _, [], _, [], hW', trodAll_mk1 (shut_bool Try.underlying4 _), trodAll_stays laidOut (by kernel_rfl) hK bel, rfl, bel.frame _, fun h => by cases h⟩

theorem over : Rows.elgamalSumsRow.holds Try.pinned (OpenSpec.ofChange Rows.elgamalSumsSpec) :=
  OpenClaim.holds_of_wide 3 Try.f3 rfl rfl rfl rfl rfl rfl rfl ⟨rfl, rfl, rfl, rfl, rfl⟩ rfl rfl rfl rfl rfl (by kernel_rfl) Try.func3 (by kernel_rfl)
    (of_decide_eq_true (by kernel_rfl)) (by unfold Func.isWrapper; first | (rw [if_pos (by decide +kernel)]; kernel_rfl) | (rw [if_neg (by decide +kernel)]; exact ⟨rfl, rfl⟩))
    (fun os started H enc _ => lifted os started H enc)

theorem proved : Rows.ElgamalSumsSaid := over
#print axioms proved
end Go.Proofs.Ytffefhldfnfohaa.lawSums
