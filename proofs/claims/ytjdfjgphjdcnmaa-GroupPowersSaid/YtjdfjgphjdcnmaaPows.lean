/- GroupPowers: the statement: for every input the law returns true, and the arguments read as before. -/
import Derived.Test.YtjdfjgphjdcnmaaRefC
import Derived.Test.YtjdfjgphjdcnmaaOpen
import Derived.Test.YtjdfjgphjdcnmaaBoxed
import Derived.Test.YtjdfjgphjdcnmaaRows
namespace Go.Proofs.Ytjdfjgphjdcnmaa.lawPows
open Go.ChangeShapes Go.WideShapes Go.ChangeAt Go.RowKit Num
set_option linter.unusedSimpArgs false
set_option linter.unusedVariables false

set_option maxRecDepth 100000 in
set_option maxHeartbeats 1600000 in
theorem walk (P Q G a b x : Int) (w : World) (uP : U64 P) (uQ : U64 Q) (uG : U64 G) (ua : U64 a) (ub : U64 b) (ux : U64 x) :
    Calls Try.prog 6 #[.agg #[.int .u64 P, .int .u64 Q, .int .u64 G], .int .u64 a, .int .u64 b, .int .u64 x] w fun e w' => e = .returned (.bool true) ∧ Below w.heap.size w w' := by
  have hP := uP.1
  have hQ := uQ.1
  have hG := uG.1
  have ha := ua.1
  have hb := ub.1
  obtain ⟨c, e1, hHA⟩ := RetS.exists (checkS P Q G P [a]) (powm a x P)
  have HA := Lib.hid hHA
  clear hHA
  obtain ⟨i, e2, hHB⟩ := RetS.exists (checkS P Q G P [a, b]) (a * b % P)
  have HB := Lib.hid hHB
  clear hHB
  obtain ⟨l, e3, hHC⟩ := (show ∃ v e, RetI (checkS P Q G P [a]) P a v e by
    by_cases h0 : 0 < P
    · exact RetI.exists _ _ _ h0
    · exact ⟨0, _, .inr ⟨by rw [checkS_not (fun h => h0 (by have := h.1; omega))]; omega, rfl, rfl⟩⟩)
  have HC := Lib.hid hHC
  clear hHC
  obtain ⟨p, e4, hHD⟩ := RetB.exists (checkS P Q G P [a]) (Mem P Q a)
  have HD := Lib.hid hHD
  clear hHD
  have hx0 := Boxed.new w P Q G 24
  go_enter Try.func6, Try.ntmps6
  go_wp2_with fail
  refine (pow_gen hP hQ hG _ ha ux HA.out).mono ?_
  rintro e w1 ⟨rfl, hb1⟩
  have hx1 : Boxed w1 (w.heap.size) P Q G := Boxed.keep (by repeat (first | exact hx0 | apply Boxed.drew | apply Boxed.alloc)) hb1
  have gc0 := hx1.c0
  have gc1 := hx1.c1
  have gc2 := hx1.c2
  have gcl := hx1.lt
  have hz := hb1.size
  try simp only [World.size_alloc, World.size_drew] at hz
  go_wp2_with fail
  refine (rPow_gen hP hG _ ha ux HA.out).mono ?_
  rintro e w2 ⟨rfl, hb2⟩
  have hx2 : Boxed w2 (w.heap.size) P Q G := Boxed.keep (by repeat (first | exact hx1 | apply Boxed.drew | apply Boxed.alloc)) hb2
  have gc0 := hx2.c0
  have gc1 := hx2.c1
  have gc2 := hx2.c2
  have gcl := hx2.lt
  have hz := hb2.size
  try simp only [World.size_alloc, World.size_drew] at hz
  go_wp2_with fail
  refine (mul_gen hP hQ hG _ ha hb HB.out).mono ?_
  rintro e w3 ⟨rfl, hb3⟩
  have hx3 : Boxed w3 (w.heap.size) P Q G := Boxed.keep (by repeat (first | exact hx2 | apply Boxed.drew | apply Boxed.alloc)) hb3
  have gc0 := hx3.c0
  have gc1 := hx3.c1
  have gc2 := hx3.c2
  have gcl := hx3.lt
  have hz := hb3.size
  try simp only [World.size_alloc, World.size_drew] at hz
  go_wp2_with fail
  refine (rMul_gen hP hG _ ha hb HB.out).mono ?_
  rintro e w4 ⟨rfl, hb4⟩
  have hx4 : Boxed w4 (w.heap.size) P Q G := Boxed.keep (by repeat (first | exact hx3 | apply Boxed.drew | apply Boxed.alloc)) hb4
  have gc0 := hx4.c0
  have gc1 := hx4.c1
  have gc2 := hx4.c2
  have gcl := hx4.lt
  have hz := hb4.size
  try simp only [World.size_alloc, World.size_drew] at hz
  go_wp2_with fail
  refine (inv_gen hP hQ hG _ ha HC.out).mono ?_
  rintro e w5 ⟨rfl, hb5⟩
  have hx5 : Boxed w5 (w.heap.size) P Q G := Boxed.keep (by repeat (first | exact hx4 | apply Boxed.drew | apply Boxed.alloc)) hb5
  have gc0 := hx5.c0
  have gc1 := hx5.c1
  have gc2 := hx5.c2
  have gcl := hx5.lt
  have hz := hb5.size
  try simp only [World.size_alloc, World.size_drew] at hz
  go_wp2_with fail
  refine (rInv_gen hP hG _ ha HC.out).mono ?_
  rintro e w6 ⟨rfl, hb6⟩
  have hx6 : Boxed w6 (w.heap.size) P Q G := Boxed.keep (by repeat (first | exact hx5 | apply Boxed.drew | apply Boxed.alloc)) hb6
  have gc0 := hx6.c0
  have gc1 := hx6.c1
  have gc2 := hx6.c2
  have gcl := hx6.lt
  have hz := hb6.size
  try simp only [World.size_alloc, World.size_drew] at hz
  go_wp2_with fail
  refine (member_gen hP hQ hG _ ha HD.out).mono ?_
  rintro e w7 ⟨rfl, hb7⟩
  have hx7 : Boxed w7 (w.heap.size) P Q G := Boxed.keep (by repeat (first | exact hx6 | apply Boxed.drew | apply Boxed.alloc)) hb7
  have gc0 := hx7.c0
  have gc1 := hx7.c1
  have gc2 := hx7.c2
  have gcl := hx7.lt
  have hz := hb7.size
  try simp only [World.size_alloc, World.size_drew] at hz
  go_wp2_with fail
  refine (rMember_gen hP hG _ ha HD.out).mono ?_
  rintro e w8 ⟨rfl, hb8⟩
  have hx8 : Boxed w8 (w.heap.size) P Q G := Boxed.keep (by repeat (first | exact hx7 | apply Boxed.drew | apply Boxed.alloc)) hb8
  have gc0 := hx8.c0
  have gc1 := hx8.c1
  have gc2 := hx8.c2
  have gcl := hx8.lt
  have hz := hb8.size
  try simp only [World.size_alloc, World.size_drew] at hz
  go_wp2_with fail
  go_ret
  exact ⟨rfl, (by repeat (first | exact Below.refl _ _ | apply Below.drew | (refine Below.alloc ?_ (by first | omega | (simp <;> omega)) _) | (refine Below.trans ?_ (hb8.mono (by first | omega | (simp <;> omega)))) | (refine Below.trans ?_ (hb7.mono (by first | omega | (simp <;> omega)))) | (refine Below.trans ?_ (hb6.mono (by first | omega | (simp <;> omega)))) | (refine Below.trans ?_ (hb5.mono (by first | omega | (simp <;> omega)))) | (refine Below.trans ?_ (hb4.mono (by first | omega | (simp <;> omega)))) | (refine Below.trans ?_ (hb3.mono (by first | omega | (simp <;> omega)))) | (refine Below.trans ?_ (hb2.mono (by first | omega | (simp <;> omega)))) | (refine Below.trans ?_ (hb1.mono (by first | omega | (simp <;> omega))))))⟩


set_option maxRecDepth 100000 in
theorem lifted (os : Os) (started : os.Started) (H : Type) (enc : TypeId × Value → H) :
    ReturnsInHanded {} Try.checked os 6 .any (Rows.groupPowersSpec.pre6 enc Try.prog Try.f6 Rows.groupPowersRow.domain false) (Rows.groupPowersSpec.post enc Try.prog Try.f6 false true false false) := by
  refine returnsInHanded_of_change (C := Try.checked) own started (by kernel_rfl) Try.func6
    (ChangeSpec.witness6 (enc := enc) (C := Try.checked) false ⟨#[], #[.agg #[.int .u64 0, .int .u64 0, .int .u64 0], .int .u64 0, .int .u64 0, .int .u64 0], []⟩ 8 (by kernel_rfl) (by kernel_rfl) (by kernel_rfl) (by kernel_rfl)) ?_
  intro W base args ds gs before hval0 hW _ _
  have hval : ∀ (j : Nat) t v, Try.f6.params[j]? = some t → args[j]? = some v → Value.okWide Try.prog W .any base t v := hval0
  have hW' := hW
  obtain ⟨p, q, hA0, hV, rfl, hfz, hnd⟩ := hW
  have hA : DataW.TrodAll enc Try.prog W 0 (fun _ => true) true Try.f6.params.toList args.toList ds p := hA0
  rw [Try.params6] at hA hval
  have hK := hA
  obtain ⟨v0, vs0, d0, ds0, p0, q0, hargs, rfl, rfl, h0, r0⟩ := trodAll_cons hA
  obtain ⟨v1, vs1, d1, ds1, p1, q1, rfl, rfl, rfl, h1, r1⟩ := trodAll_cons r0
  obtain ⟨v2, vs2, d2, ds2, p2, q2, rfl, rfl, rfl, h2, r2⟩ := trodAll_cons r1
  obtain ⟨v3, vs3, d3, ds3, p3, q3, rfl, rfl, rfl, h3, r3⟩ := trodAll_cons r2
  obtain ⟨rfl, rfl, rfl⟩ := trodAll_nil r3
  obtain rfl : args = #[v0, v1, v2, v3] := by cases args; simp_all
  obtain ⟨rfl, rfl⟩ := trodVars_none hV
  obtain ⟨P, Q, G, rfl, uP, uQ, uG⟩ := open_group (hval 0 24 v0 rfl rfl) h0
  obtain ⟨a, rfl, ua⟩ := open_u64 (hval 1 22 v1 rfl rfl) h1
  obtain ⟨b, rfl, ub⟩ := open_u64 (hval 2 22 v2 rfl rfl) h2
  obtain ⟨x, rfl, ux⟩ := open_u64 (hval 3 22 v3 rfl rfl) h3
  clear hA0 hval0
  refine (walk P Q G a b x W uP uQ uG ua ub ux).mono fun e W' ⟨he, bel⟩ => ?_
  subst he
  exact ⟨_, rfl, _, _, _, [], _, [], hW', trodAll_mk1 (shut_bool Try.underlying4 _), trodAll_stays laidOut (by kernel_rfl) hK bel, rfl, bel.frame _, fun h => by cases h⟩

theorem over : Rows.groupPowersRow.holds Try.pinned (OpenSpec.ofChange Rows.groupPowersSpec) :=
  OpenClaim.holds_of_wide 6 Try.f6 rfl rfl rfl rfl rfl rfl rfl ⟨rfl, rfl, rfl, rfl, rfl⟩ rfl rfl rfl rfl rfl (by kernel_rfl) Try.func6 (by kernel_rfl)
    (of_decide_eq_true (by kernel_rfl)) (by unfold Func.isWrapper; first | (rw [if_pos (by decide +kernel)]; kernel_rfl) | (rw [if_neg (by decide +kernel)]; exact ⟨rfl, rfl⟩))
    (fun os started H enc _ => lifted os started H enc)

theorem proved : Rows.GroupPowersSaid := over
#print axioms proved
end Go.Proofs.Ytjdfjgphjdcnmaa.lawPows
