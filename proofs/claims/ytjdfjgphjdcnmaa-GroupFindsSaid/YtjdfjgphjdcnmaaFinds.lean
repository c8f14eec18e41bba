/- GroupFinds: the statement: for every input the law returns true, and the arguments read as before. -/
import Derived.Test.YtjdfjgphjdcnmaaAux30
import Derived.Test.YtjdfjgphjdcnmaaOpen
import Derived.Test.YtjdfjgphjdcnmaaRows
namespace Go.Proofs.Ytjdfjgphjdcnmaa.lawFinds
open Go.ChangeShapes Go.WideShapes Go.ChangeAt Go.RowKit Num
set_option linter.unusedSimpArgs false
set_option linter.unusedVariables false

set_option maxRecDepth 100000 in
set_option maxHeartbeats 3200000 in
theorem walk (P Q G x most : Int) (w : World) (uP : U64 P) (uQ : U64 Q) (uG : U64 G) (ux : 0 ≤ x ∧ x < 65536) (um : -9223372036854775808 ≤ most ∧ most ≤ 9223372036854775807) :
    Calls Try.prog 11 #[.agg #[.int .u64 P, .int .u64 Q, .int .u64 G], .int .u16 x, .int .i64 most] w fun e w' => e = .returned (.bool true) ∧ Below w.heap.size w w' := by
  clear um
  have hP := uP.1
  have hQ := uQ.1
  have hG := uG.1
  have hx0 := Boxed.new w P Q G 24
  by_cases hv : Valid P Q G
  case neg =>
    have HV1 := Lib.hid (show ValidS P Q G 300 from .inr ⟨hv, rfl⟩)
    clear hv
    go_enter Try.func11, Try.ntmps11
    go_wp2_with fail
    refine (alive30 _).mono ?_
    rintro e w1 ⟨rfl, hb1⟩
    have hx1 : Boxed w1 (w.heap.size) P Q G := Boxed.keep (by repeat (first | exact hx0 | apply Boxed.drew | apply Boxed.alloc)) hb1
    have gc0 := hx1.c0
    have gc1 := hx1.c1
    have gc2 := hx1.c2
    have gcl := hx1.lt
    have hz := hb1.size
    try simp only [World.size_alloc, World.size_drew] at hz
    go_wp2_with fail
    refine (gcheck_any P Q G 300 _ hP hQ hG HV1.out).mono ?_
    rintro e w2 ⟨rfl, hb2⟩
    have hx2 : Boxed w2 (w.heap.size) P Q G := Boxed.keep (by repeat (first | exact hx1 | apply Boxed.drew | apply Boxed.alloc)) hb2
    have gc0 := hx2.c0
    have gc1 := hx2.c1
    have gc2 := hx2.c2
    have gcl := hx2.lt
    have hz := hb2.size
    try simp only [World.size_alloc, World.size_drew] at hz
    go_wp2_with fail
    go_ret
    exact ⟨rfl, (by repeat (first | exact Below.refl _ _ | apply Below.drew | (refine Below.alloc ?_ (by first | omega | (simp <;> omega)) _) | (refine Below.trans ?_ (hb2.mono (by first | omega | (simp <;> omega)))) | (refine Below.trans ?_ (hb1.mono (by first | omega | (simp <;> omega))))))⟩
  case pos =>
    have HV0 := Lib.hid (show ValidS P Q G 0 from .inl ⟨hv, rfl⟩)
    have HH := Lib.hid hv.1
    have HG := Lib.hid hv.grp
    obtain ⟨p5, p3, _, pq, g2, gP⟩ := id hv.1
    have q2 : 2 ≤ Q := by omega
    have q3 : Q < 1073741824 := by omega
    have qP : Q < P := by omega
    have HQ := Lib.hid (U64.of_lt hQ (show Q < 4611686018427387904 by omega))
    clear hv pq
    by_cases hx : x < Q
    case neg =>
      have hx' : Q ≤ x := by omega
      clear hx
      go_enter Try.func11, Try.ntmps11
      go_wp2_with fail
      refine (alive30 _).mono ?_
      rintro e w1 ⟨rfl, hb1⟩
      have hx1 : Boxed w1 (w.heap.size) P Q G := Boxed.keep (by repeat (first | exact hx0 | apply Boxed.drew | apply Boxed.alloc)) hb1
      have gc0 := hx1.c0
      have gc1 := hx1.c1
      have gc2 := hx1.c2
      have gcl := hx1.lt
      have hz := hb1.size
      try simp only [World.size_alloc, World.size_drew] at hz
      go_wp2_with fail
      refine (gcheck_any P Q G 0 _ hP hQ hG HV0.out).mono ?_
      rintro e w2 ⟨rfl, hb2⟩
      have hx2 : Boxed w2 (w.heap.size) P Q G := Boxed.keep (by repeat (first | exact hx1 | apply Boxed.drew | apply Boxed.alloc)) hb2
      have gc0 := hx2.c0
      have gc1 := hx2.c1
      have gc2 := hx2.c2
      have gcl := hx2.lt
      have hz := hb2.size
      try simp only [World.size_alloc, World.size_drew] at hz
      go_wp2_with fail
      go_ret
      exact ⟨rfl, (by repeat (first | exact Below.refl _ _ | apply Below.drew | (refine Below.alloc ?_ (by first | omega | (simp <;> omega)) _) | (refine Below.trans ?_ (hb2.mono (by first | omega | (simp <;> omega)))) | (refine Below.trans ?_ (hb1.mono (by first | omega | (simp <;> omega))))))⟩
    case pos =>
      by_cases m0 : 0 ≤ most
      case neg =>
        have m0' : most < 0 := by omega
        clear m0
        go_enter Try.func11, Try.ntmps11
        go_wp2_with fail
        refine (alive30 _).mono ?_
        rintro e w1 ⟨rfl, hb1⟩
        have hx1 : Boxed w1 (w.heap.size) P Q G := Boxed.keep (by repeat (first | exact hx0 | apply Boxed.drew | apply Boxed.alloc)) hb1
        have gc0 := hx1.c0
        have gc1 := hx1.c1
        have gc2 := hx1.c2
        have gcl := hx1.lt
        have hz := hb1.size
        try simp only [World.size_alloc, World.size_drew] at hz
        go_wp2_with fail
        refine (gcheck_any P Q G 0 _ hP hQ hG HV0.out).mono ?_
        rintro e w2 ⟨rfl, hb2⟩
        have hx2 : Boxed w2 (w.heap.size) P Q G := Boxed.keep (by repeat (first | exact hx1 | apply Boxed.drew | apply Boxed.alloc)) hb2
        have gc0 := hx2.c0
        have gc1 := hx2.c1
        have gc2 := hx2.c2
        have gcl := hx2.lt
        have hz := hb2.size
        try simp only [World.size_alloc, World.size_drew] at hz
        go_wp2_with fail
        go_ret
        exact ⟨rfl, (by repeat (first | exact Below.refl _ _ | apply Below.drew | (refine Below.alloc ?_ (by first | omega | (simp <;> omega)) _) | (refine Below.trans ?_ (hb2.mono (by first | omega | (simp <;> omega)))) | (refine Below.trans ?_ (hb1.mono (by first | omega | (simp <;> omega))))))⟩
      case pos =>
        by_cases m4 : most ≤ 4096
        case neg =>
          have m4' : 4096 < most := by omega
          clear m4
          go_enter Try.func11, Try.ntmps11
          go_wp2_with fail
          refine (alive30 _).mono ?_
          rintro e w1 ⟨rfl, hb1⟩
          have hx1 : Boxed w1 (w.heap.size) P Q G := Boxed.keep (by repeat (first | exact hx0 | apply Boxed.drew | apply Boxed.alloc)) hb1
          have gc0 := hx1.c0
          have gc1 := hx1.c1
          have gc2 := hx1.c2
          have gcl := hx1.lt
          have hz := hb1.size
          try simp only [World.size_alloc, World.size_drew] at hz
          go_wp2_with fail
          refine (gcheck_any P Q G 0 _ hP hQ hG HV0.out).mono ?_
          rintro e w2 ⟨rfl, hb2⟩
          have hx2 : Boxed w2 (w.heap.size) P Q G := Boxed.keep (by repeat (first | exact hx1 | apply Boxed.drew | apply Boxed.alloc)) hb2
          have gc0 := hx2.c0
          have gc1 := hx2.c1
          have gc2 := hx2.c2
          have gcl := hx2.lt
          have hz := hb2.size
          try simp only [World.size_alloc, World.size_drew] at hz
          go_wp2_with fail
          go_ret
          exact ⟨rfl, (by repeat (first | exact Below.refl _ _ | apply Below.drew | (refine Below.alloc ?_ (by first | omega | (simp <;> omega)) _) | (refine Below.trans ?_ (hb2.mono (by first | omega | (simp <;> omega)))) | (refine Below.trans ?_ (hb1.mono (by first | omega | (simp <;> omega))))))⟩
        case pos =>
          obtain ⟨a, ha⟩ : ∃ a, powm G x P = a := ⟨_, rfl⟩
          have a0 : 0 ≤ a := by rw [← ha]; exact powm_nonneg (by omega)
          have aP : a < P := by rw [← ha]; exact powm_lt (by omega)
          have HA := Lib.hid ha
          clear ha
          have UX := Lib.hid (U64.of_lt (x := x) ux.1 (by omega))
          obtain ⟨ux0, ux1⟩ := ux
          by_cases hm : x ≤ most
          case neg =>
            have hm' : most < x := by omega
            have HL := Lib.hid (show LogS P G a most 0 6 from .inr ⟨fun y y0 y1 e => by
          have := HG.out.inj HG.out.mem_g (by omega) y0 (by omega) (show 0 ≤ x by omega) hx (by rw [e]; exact HA.out.symm)
          omega, rfl, rfl⟩)
            clear hm
            go_enter Try.func11, Try.ntmps11
            go_wp2_with fail
            refine (alive30 _).mono ?_
            rintro e w1 ⟨rfl, hb1⟩
            have hx1 : Boxed w1 (w.heap.size) P Q G := Boxed.keep (by repeat (first | exact hx0 | apply Boxed.drew | apply Boxed.alloc)) hb1
            have gc0 := hx1.c0
            have gc1 := hx1.c1
            have gc2 := hx1.c2
            have gcl := hx1.lt
            have hz := hb1.size
            try simp only [World.size_alloc, World.size_drew] at hz
            go_wp2_with fail
            refine (gcheck_any P Q G 0 _ hP hQ hG HV0.out).mono ?_
            rintro e w2 ⟨rfl, hb2⟩
            have hx2 : Boxed w2 (w.heap.size) P Q G := Boxed.keep (by repeat (first | exact hx1 | apply Boxed.drew | apply Boxed.alloc)) hb2
            have gc0 := hx2.c0
            have gc1 := hx2.c1
            have gc2 := hx2.c2
            have gcl := hx2.lt
            have hz := hb2.size
            try simp only [World.size_alloc, World.size_drew] at hz
            go_wp2_with fail
            refine (pow_ok P Q G G x a _ HH.out hG gP UX.out HA.out).mono ?_
            rintro e w3 ⟨rfl, hb3⟩
            have hx3 : Boxed w3 (w.heap.size) P Q G := Boxed.keep (by repeat (first | exact hx2 | apply Boxed.drew | apply Boxed.alloc)) hb3
            have gc0 := hx3.c0
            have gc1 := hx3.c1
            have gc2 := hx3.c2
            have gcl := hx3.lt
            have hz := hb3.size
            try simp only [World.size_alloc, World.size_drew] at hz
            go_wp2_with fail
            refine (log_ok P Q G a most 0 6 _ HH.out aP m0 m4 HL.out).mono ?_
            rintro e w4 ⟨rfl, hb4⟩
            have hx4 : Boxed w4 (w.heap.size) P Q G := Boxed.keep (by repeat (first | exact hx3 | apply Boxed.drew | apply Boxed.alloc)) hb4
            have gc0 := hx4.c0
            have gc1 := hx4.c1
            have gc2 := hx4.c2
            have gcl := hx4.lt
            have hz := hb4.size
            try simp only [World.size_alloc, World.size_drew] at hz
            go_wp2_with fail
            go_ret
            exact ⟨rfl, (by repeat (first | exact Below.refl _ _ | apply Below.drew | (refine Below.alloc ?_ (by first | omega | (simp <;> omega)) _) | (refine Below.trans ?_ (hb4.mono (by first | omega | (simp <;> omega)))) | (refine Below.trans ?_ (hb3.mono (by first | omega | (simp <;> omega)))) | (refine Below.trans ?_ (hb2.mono (by first | omega | (simp <;> omega)))) | (refine Below.trans ?_ (hb1.mono (by first | omega | (simp <;> omega))))))⟩
          case pos =>
            have HL := Lib.hid (show LogS P G a most x 0 from .inl ⟨by omega, hm, HA.out, fun y y0 y1 e => by
          have := HG.out.inj HG.out.mem_g (by omega) y0 (by omega) (show 0 ≤ x by omega) hx (by rw [e]; exact HA.out.symm)
          omega, rfl⟩)
            go_enter Try.func11, Try.ntmps11
            go_wp2_with fail
            refine (alive30 _).mono ?_
            rintro e w1 ⟨rfl, hb1⟩
            have hx1 : Boxed w1 (w.heap.size) P Q G := Boxed.keep (by repeat (first | exact hx0 | apply Boxed.drew | apply Boxed.alloc)) hb1
            have gc0 := hx1.c0
            have gc1 := hx1.c1
            have gc2 := hx1.c2
            have gcl := hx1.lt
            have hz := hb1.size
            try simp only [World.size_alloc, World.size_drew] at hz
            go_wp2_with fail
            refine (gcheck_any P Q G 0 _ hP hQ hG HV0.out).mono ?_
            rintro e w2 ⟨rfl, hb2⟩
            have hx2 : Boxed w2 (w.heap.size) P Q G := Boxed.keep (by repeat (first | exact hx1 | apply Boxed.drew | apply Boxed.alloc)) hb2
            have gc0 := hx2.c0
            have gc1 := hx2.c1
            have gc2 := hx2.c2
            have gcl := hx2.lt
            have hz := hb2.size
            try simp only [World.size_alloc, World.size_drew] at hz
            go_wp2_with fail
            refine (pow_ok P Q G G x a _ HH.out hG gP UX.out HA.out).mono ?_
            rintro e w3 ⟨rfl, hb3⟩
            have hx3 : Boxed w3 (w.heap.size) P Q G := Boxed.keep (by repeat (first | exact hx2 | apply Boxed.drew | apply Boxed.alloc)) hb3
            have gc0 := hx3.c0
            have gc1 := hx3.c1
            have gc2 := hx3.c2
            have gcl := hx3.lt
            have hz := hb3.size
            try simp only [World.size_alloc, World.size_drew] at hz
            go_wp2_with fail
            refine (log_ok P Q G a most x 0 _ HH.out aP m0 m4 HL.out).mono ?_
            rintro e w4 ⟨rfl, hb4⟩
            have hx4 : Boxed w4 (w.heap.size) P Q G := Boxed.keep (by repeat (first | exact hx3 | apply Boxed.drew | apply Boxed.alloc)) hb4
            have gc0 := hx4.c0
            have gc1 := hx4.c1
            have gc2 := hx4.c2
            have gcl := hx4.lt
            have hz := hb4.size
            try simp only [World.size_alloc, World.size_drew] at hz
            go_wp2_with fail
            go_ret
            exact ⟨rfl, (by repeat (first | exact Below.refl _ _ | apply Below.drew | (refine Below.alloc ?_ (by first | omega | (simp <;> omega)) _) | (refine Below.trans ?_ (hb4.mono (by first | omega | (simp <;> omega)))) | (refine Below.trans ?_ (hb3.mono (by first | omega | (simp <;> omega)))) | (refine Below.trans ?_ (hb2.mono (by first | omega | (simp <;> omega)))) | (refine Below.trans ?_ (hb1.mono (by first | omega | (simp <;> omega))))))⟩


set_option maxRecDepth 100000 in
theorem lifted (os : Os) (started : os.Started) (H : Type) (enc : TypeId × Value → H) :
    ReturnsInHanded {} Try.checked os 11 .any (Rows.groupFindsSpec.pre6 enc Try.prog Try.f11 Rows.groupFindsRow.domain false) (Rows.groupFindsSpec.post enc Try.prog Try.f11 false true false false) := by
  refine returnsInHanded_of_change (C := Try.checked) own started (by kernel_rfl) Try.func11
    (ChangeSpec.witness6 (enc := enc) (C := Try.checked) false ⟨#[], #[.agg #[.int .u64 0, .int .u64 0, .int .u64 0], .int .u16 0, .int .i64 0], []⟩ 8 (by kernel_rfl) (by kernel_rfl) (by kernel_rfl) (by kernel_rfl)) ?_
  intro W base args ds gs before hval0 hW _ _
  have hval : ∀ (j : Nat) t v, Try.f11.params[j]? = some t → args[j]? = some v → Value.okWide Try.prog W .any base t v := hval0
  have hW' := hW
  obtain ⟨p, q, hA0, hV, rfl, hfz, hnd⟩ := hW
  have hA : DataW.TrodAll enc Try.prog W 0 (fun _ => true) true Try.f11.params.toList args.toList ds p := hA0
  rw [Try.params11] at hA hval
  have hK := hA
  obtain ⟨v0, vs0, d0, ds0, p0, q0, hargs, rfl, rfl, h0, r0⟩ := trodAll_cons hA
  obtain ⟨v1, vs1, d1, ds1, p1, q1, rfl, rfl, rfl, h1, r1⟩ := trodAll_cons r0
  obtain ⟨v2, vs2, d2, ds2, p2, q2, rfl, rfl, rfl, h2, r2⟩ := trodAll_cons r1
  obtain ⟨rfl, rfl, rfl⟩ := trodAll_nil r2
  obtain rfl : args = #[v0, v1, v2] := by cases args; simp_all
  obtain ⟨rfl, rfl⟩ := trodVars_none hV
  obtain ⟨P, Q, G, rfl, uP, uQ, uG⟩ := open_group (hval 0 24 v0 rfl rfl) h0
  obtain ⟨x, rfl, ux⟩ := open_u16 (hval 1 56 v1 rfl rfl) h1
  obtain ⟨most, rfl, um⟩ := open_i64 (hval 2 3 v2 rfl rfl) h2
  clear hA0 hval0
  refine (walk P Q G x most W uP uQ uG ux um).mono fun e W' ⟨he, bel⟩ => ?_
  subst he
  exact ⟨_, rfl, _, _, _, [], _, [], hW', trodAll_mk1 (shut_bool Try.underlying4 _), trodAll_stays laidOut (by kernel_rfl) hK bel, rfl, bel.frame _, fun h => by cases h⟩

theorem over : Rows.groupFindsRow.holds Try.pinned (OpenSpec.ofChange Rows.groupFindsSpec) :=
  OpenClaim.holds_of_wide 11 Try.f11 rfl rfl rfl rfl rfl rfl rfl ⟨rfl, rfl, rfl, rfl, rfl⟩ rfl rfl rfl rfl rfl (by kernel_rfl) Try.func11 (by kernel_rfl)
    (of_decide_eq_true (by kernel_rfl)) (by unfold Func.isWrapper; first | (rw [if_pos (by decide +kernel)]; kernel_rfl) | (rw [if_neg (by decide +kernel)]; exact ⟨rfl, rfl⟩))
    (fun os started H enc _ => lifted os started H enc)

theorem proved : Rows.GroupFindsSaid := over
#print axioms proved
end Go.Proofs.Ytjdfjgphjdcnmaa.lawFinds
