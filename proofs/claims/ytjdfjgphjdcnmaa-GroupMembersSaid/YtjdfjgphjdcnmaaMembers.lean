/- GroupMembers: the statement: for every input the law returns true, and the arguments read as before. -/
import Derived.Test.YtjdfjgphjdcnmaaAux30
import Derived.Test.YtjdfjgphjdcnmaaOpen
import Derived.Test.YtjdfjgphjdcnmaaRows
namespace Go.Proofs.Ytjdfjgphjdcnmaa.lawMembers
open Go.ChangeShapes Go.WideShapes Go.ChangeAt Go.RowKit Num
set_option linter.unusedSimpArgs false
set_option linter.unusedVariables false

set_option maxRecDepth 100000 in
set_option maxHeartbeats 3200000 in
theorem walk (P Q G a b x : Int) (w : World) (uP : U64 P) (uQ : U64 Q) (uG : U64 G) (ua : U64 a) (ub : U64 b) (ux : U64 x) :
    Calls Try.prog 9 #[.agg #[.int .u64 P, .int .u64 Q, .int .u64 G], .int .u64 a, .int .u64 b, .int .u64 x] w fun e w' => e = .returned (.bool true) ∧ Below w.heap.size w w' := by
  have hP := uP.1
  have hQ := uQ.1
  have hG := uG.1
  have hx0 := Boxed.new w P Q G 24
  by_cases hv : Valid P Q G
  case neg =>
    have HV1 := Lib.hid (show ValidS P Q G 300 from .inr ⟨hv, rfl⟩)
    clear hv
    go_enter Try.func9, Try.ntmps9
    go_wp2_with fail
    refine (alive30 _).mono ?_
    rintro e w1 ⟨rfl, hb1⟩
    have hx1 : Boxed w1 (w.heap.size) P Q G := Boxed.keep (by repeat (first | exact hx0 | apply Boxed.drew | apply Boxed.alloc)) hb1
    have gc0 := hx1.c0
    have gc1 := hx1.c1
    have gc2 := hx1.c2
    have gcl := hx1.lt
    have hz := hb1.size
    try simp only [World.size_alloc, World.size_drew] at hz
    go_wp2_with fail
    refine (gcheck_any P Q G 300 _ hP hQ hG HV1.out).mono ?_
    rintro e w2 ⟨rfl, hb2⟩
    have hx2 : Boxed w2 (w.heap.size) P Q G := Boxed.keep (by repeat (first | exact hx1 | apply Boxed.drew | apply Boxed.alloc)) hb2
    have gc0 := hx2.c0
    have gc1 := hx2.c1
    have gc2 := hx2.c2
    have gcl := hx2.lt
    have hz := hb2.size
    try simp only [World.size_alloc, World.size_drew] at hz
    go_wp2_with fail
    go_ret
    exact ⟨rfl, (by repeat (first | exact Below.refl _ _ | apply Below.drew | (refine Below.alloc ?_ (by first | omega | (simp <;> omega)) _) | (refine Below.trans ?_ (hb2.mono (by first | omega | (simp <;> omega)))) | (refine Below.trans ?_ (hb1.mono (by first | omega | (simp <;> omega))))))⟩
  case pos =>
    have HV0 := Lib.hid (show ValidS P Q G 0 from .inl ⟨hv, rfl⟩)
    have HH := Lib.hid hv.1
    have HG := Lib.hid hv.grp
    obtain ⟨p5, p3, _, pq, g2, gP⟩ := id hv.1
    have q2 : 2 ≤ Q := by omega
    have q3 : Q < 1073741824 := by omega
    have qP : Q < P := by omega
    have HQ := Lib.hid (U64.of_lt hQ (show Q < 4611686018427387904 by omega))
    clear hv pq
    by_cases ha : a < P
    case neg =>
      have ha' : P ≤ a := by omega
      clear ha
      go_enter Try.func9, Try.ntmps9
      go_wp2_with fail
      refine (alive30 _).mono ?_
      rintro e w1 ⟨rfl, hb1⟩
      have hx1 : Boxed w1 (w.heap.size) P Q G := Boxed.keep (by repeat (first | exact hx0 | apply Boxed.drew | apply Boxed.alloc)) hb1
      have gc0 := hx1.c0
      have gc1 := hx1.c1
      have gc2 := hx1.c2
      have gcl := hx1.lt
      have hz := hb1.size
      try simp only [World.size_alloc, World.size_drew] at hz
      go_wp2_with fail
      refine (gcheck_any P Q G 0 _ hP hQ hG HV0.out).mono ?_
      rintro e w2 ⟨rfl, hb2⟩
      have hx2 : Boxed w2 (w.heap.size) P Q G := Boxed.keep (by repeat (first | exact hx1 | apply Boxed.drew | apply Boxed.alloc)) hb2
      have gc0 := hx2.c0
      have gc1 := hx2.c1
      have gc2 := hx2.c2
      have gcl := hx2.lt
      have hz := hb2.size
      try simp only [World.size_alloc, World.size_drew] at hz
      go_wp2_with fail
      go_ret
      exact ⟨rfl, (by repeat (first | exact Below.refl _ _ | apply Below.drew | (refine Below.alloc ?_ (by first | omega | (simp <;> omega)) _) | (refine Below.trans ?_ (hb2.mono (by first | omega | (simp <;> omega)))) | (refine Below.trans ?_ (hb1.mono (by first | omega | (simp <;> omega))))))⟩
    case pos =>
      by_cases hb : b < P
      case neg =>
        have hb' : P ≤ b := by omega
        clear hb
        go_enter Try.func9, Try.ntmps9
        go_wp2_with fail
        refine (alive30 _).mono ?_
        rintro e w1 ⟨rfl, hb1⟩
        have hx1 : Boxed w1 (w.heap.size) P Q G := Boxed.keep (by repeat (first | exact hx0 | apply Boxed.drew | apply Boxed.alloc)) hb1
        have gc0 := hx1.c0
        have gc1 := hx1.c1
        have gc2 := hx1.c2
        have gcl := hx1.lt
        have hz := hb1.size
        try simp only [World.size_alloc, World.size_drew] at hz
        go_wp2_with fail
        refine (gcheck_any P Q G 0 _ hP hQ hG HV0.out).mono ?_
        rintro e w2 ⟨rfl, hb2⟩
        have hx2 : Boxed w2 (w.heap.size) P Q G := Boxed.keep (by repeat (first | exact hx1 | apply Boxed.drew | apply Boxed.alloc)) hb2
        have gc0 := hx2.c0
        have gc1 := hx2.c1
        have gc2 := hx2.c2
        have gcl := hx2.lt
        have hz := hb2.size
        try simp only [World.size_alloc, World.size_drew] at hz
        go_wp2_with fail
        go_ret
        exact ⟨rfl, (by repeat (first | exact Below.refl _ _ | apply Below.drew | (refine Below.alloc ?_ (by first | omega | (simp <;> omega)) _) | (refine Below.trans ?_ (hb2.mono (by first | omega | (simp <;> omega)))) | (refine Below.trans ?_ (hb1.mono (by first | omega | (simp <;> omega))))))⟩
      case pos =>
        have ha0 := ua.1
        have hb0 := ub.1
        obtain ⟨s, hs⟩ : ∃ s, powm a 2 P = s := ⟨_, rfl⟩
        have s0 : 0 ≤ s := by rw [← hs]; exact powm_nonneg (by omega)
        have HS := Lib.hid hs
        clear hs
        by_cases hz : 0 < a
        case neg =>
          have HMS := Lib.hid (show ¬ Mem P Q s by
            have h0 : a = 0 := by omega
            have : s = 0 := by rw [← HS.out, h0]; simp [powm]
            simp [this, Mem])
          have HMA := Lib.hid (show ¬ Mem P Q a by simp [hz, Mem])
          go_enter Try.func9, Try.ntmps9
          go_wp2_with fail
          refine (alive30 _).mono ?_
          rintro e w1 ⟨rfl, hb1⟩
          have hx1 : Boxed w1 (w.heap.size) P Q G := Boxed.keep (by repeat (first | exact hx0 | apply Boxed.drew | apply Boxed.alloc)) hb1
          have gc0 := hx1.c0
          have gc1 := hx1.c1
          have gc2 := hx1.c2
          have gcl := hx1.lt
          have hz := hb1.size
          try simp only [World.size_alloc, World.size_drew] at hz
          go_wp2_with fail
          refine (gcheck_any P Q G 0 _ hP hQ hG HV0.out).mono ?_
          rintro e w2 ⟨rfl, hb2⟩
          have hx2 : Boxed w2 (w.heap.size) P Q G := Boxed.keep (by repeat (first | exact hx1 | apply Boxed.drew | apply Boxed.alloc)) hb2
          have gc0 := hx2.c0
          have gc1 := hx2.c1
          have gc2 := hx2.c2
          have gcl := hx2.lt
          have hz := hb2.size
          try simp only [World.size_alloc, World.size_drew] at hz
          go_wp2_with fail
          refine (pow_ok P Q G a 2 s _ HH.out ha0 ha (U64.of_lt (by omega) (by omega)) HS.out).mono ?_
          rintro e w3 ⟨rfl, hb3⟩
          have hx3 : Boxed w3 (w.heap.size) P Q G := Boxed.keep (by repeat (first | exact hx2 | apply Boxed.drew | apply Boxed.alloc)) hb3
          have gc0 := hx3.c0
          have gc1 := hx3.c1
          have gc2 := hx3.c2
          have gcl := hx3.lt
          have hz := hb3.size
          try simp only [World.size_alloc, World.size_drew] at hz
          go_wp2_with fail
          refine (member_is (r := false) _ hP hQ hG s0 (by simp [HH.out, HMS.out])).mono ?_
          rintro e w4 ⟨rfl, hb4⟩
          have hx4 : Boxed w4 (w.heap.size) P Q G := Boxed.keep (by repeat (first | exact hx3 | apply Boxed.drew | apply Boxed.alloc)) hb4
          have gc0 := hx4.c0
          have gc1 := hx4.c1
          have gc2 := hx4.c2
          have gcl := hx4.lt
          have hz := hb4.size
          try simp only [World.size_alloc, World.size_drew] at hz
          go_wp2_with fail
          refine (member_is (r := false) _ hP hQ hG (by omega) (by simp [Mem])).mono ?_
          rintro e w5 ⟨rfl, hb5⟩
          have hx5 : Boxed w5 (w.heap.size) P Q G := Boxed.keep (by repeat (first | exact hx4 | apply Boxed.drew | apply Boxed.alloc)) hb5
          have gc0 := hx5.c0
          have gc1 := hx5.c1
          have gc2 := hx5.c2
          have gcl := hx5.lt
          have hz := hb5.size
          try simp only [World.size_alloc, World.size_drew] at hz
          go_wp2_with fail
          refine (member_is (r := true) _ hP hQ hG (by omega) (by simp [HH.out, HG.out.mem_one])).mono ?_
          rintro e w6 ⟨rfl, hb6⟩
          have hx6 : Boxed w6 (w.heap.size) P Q G := Boxed.keep (by repeat (first | exact hx5 | apply Boxed.drew | apply Boxed.alloc)) hb6
          have gc0 := hx6.c0
          have gc1 := hx6.c1
          have gc2 := hx6.c2
          have gcl := hx6.lt
          have hz := hb6.size
          try simp only [World.size_alloc, World.size_drew] at hz
          go_wp2_with fail
          refine (member_is (r := false) _ hP hQ hG ha0 (by simp [HMA.out])).mono ?_
          rintro e w7 ⟨rfl, hb7⟩
          have hx7 : Boxed w7 (w.heap.size) P Q G := Boxed.keep (by repeat (first | exact hx6 | apply Boxed.drew | apply Boxed.alloc)) hb7
          have gc0 := hx7.c0
          have gc1 := hx7.c1
          have gc2 := hx7.c2
          have gcl := hx7.lt
          have hz := hb7.size
          try simp only [World.size_alloc, World.size_drew] at hz
          go_wp2_with fail
          go_ret
          exact ⟨rfl, (by repeat (first | exact Below.refl _ _ | apply Below.drew | (refine Below.alloc ?_ (by first | omega | (simp <;> omega)) _) | (refine Below.trans ?_ (hb7.mono (by first | omega | (simp <;> omega)))) | (refine Below.trans ?_ (hb6.mono (by first | omega | (simp <;> omega)))) | (refine Below.trans ?_ (hb5.mono (by first | omega | (simp <;> omega)))) | (refine Below.trans ?_ (hb4.mono (by first | omega | (simp <;> omega)))) | (refine Below.trans ?_ (hb3.mono (by first | omega | (simp <;> omega)))) | (refine Below.trans ?_ (hb2.mono (by first | omega | (simp <;> omega)))) | (refine Below.trans ?_ (hb1.mono (by first | omega | (simp <;> omega))))))⟩
        case pos =>
          have HMS := Lib.hid (show Mem P Q s by rw [← HS.out]; exact HG.out.mem_sq hz ha)
          by_cases hm : Mem P Q a
          case neg =>
            have HMA := Lib.hid hm
            clear hm
            go_enter Try.func9, Try.ntmps9
            go_wp2_with fail
            refine (alive30 _).mono ?_
            rintro e w1 ⟨rfl, hb1⟩
            have hx1 : Boxed w1 (w.heap.size) P Q G := Boxed.keep (by repeat (first | exact hx0 | apply Boxed.drew | apply Boxed.alloc)) hb1
            have gc0 := hx1.c0
            have gc1 := hx1.c1
            have gc2 := hx1.c2
            have gcl := hx1.lt
            have hz := hb1.size
            try simp only [World.size_alloc, World.size_drew] at hz
            go_wp2_with fail
            refine (gcheck_any P Q G 0 _ hP hQ hG HV0.out).mono ?_
            rintro e w2 ⟨rfl, hb2⟩
            have hx2 : Boxed w2 (w.heap.size) P Q G := Boxed.keep (by repeat (first | exact hx1 | apply Boxed.drew | apply Boxed.alloc)) hb2
            have gc0 := hx2.c0
            have gc1 := hx2.c1
            have gc2 := hx2.c2
            have gcl := hx2.lt
            have hz := hb2.size
            try simp only [World.size_alloc, World.size_drew] at hz
            go_wp2_with fail
            refine (pow_ok P Q G a 2 s _ HH.out ha0 ha (U64.of_lt (by omega) (by omega)) HS.out).mono ?_
            rintro e w3 ⟨rfl, hb3⟩
            have hx3 : Boxed w3 (w.heap.size) P Q G := Boxed.keep (by repeat (first | exact hx2 | apply Boxed.drew | apply Boxed.alloc)) hb3
            have gc0 := hx3.c0
            have gc1 := hx3.c1
            have gc2 := hx3.c2
            have gcl := hx3.lt
            have hz := hb3.size
            try simp only [World.size_alloc, World.size_drew] at hz
            go_wp2_with fail
            refine (member_is (r := true) _ hP hQ hG s0 (by simp [HH.out, HMS.out])).mono ?_
            rintro e w4 ⟨rfl, hb4⟩
            have hx4 : Boxed w4 (w.heap.size) P Q G := Boxed.keep (by repeat (first | exact hx3 | apply Boxed.drew | apply Boxed.alloc)) hb4
            have gc0 := hx4.c0
            have gc1 := hx4.c1
            have gc2 := hx4.c2
            have gcl := hx4.lt
            have hz := hb4.size
            try simp only [World.size_alloc, World.size_drew] at hz
            go_wp2_with fail
            refine (member_is (r := false) _ hP hQ hG (by omega) (by simp [Mem])).mono ?_
            rintro e w5 ⟨rfl, hb5⟩
            have hx5 : Boxed w5 (w.heap.size) P Q G := Boxed.keep (by repeat (first | exact hx4 | apply Boxed.drew | apply Boxed.alloc)) hb5
            have gc0 := hx5.c0
            have gc1 := hx5.c1
            have gc2 := hx5.c2
            have gcl := hx5.lt
            have hz := hb5.size
            try simp only [World.size_alloc, World.size_drew] at hz
            go_wp2_with fail
            refine (member_is (r := true) _ hP hQ hG (by omega) (by simp [HH.out, HG.out.mem_one])).mono ?_
            rintro e w6 ⟨rfl, hb6⟩
            have hx6 : Boxed w6 (w.heap.size) P Q G := Boxed.keep (by repeat (first | exact hx5 | apply Boxed.drew | apply Boxed.alloc)) hb6
            have gc0 := hx6.c0
            have gc1 := hx6.c1
            have gc2 := hx6.c2
            have gcl := hx6.lt
            have hz := hb6.size
            try simp only [World.size_alloc, World.size_drew] at hz
            go_wp2_with fail
            refine (member_is (r := false) _ hP hQ hG ha0 (by simp [HMA.out])).mono ?_
            rintro e w7 ⟨rfl, hb7⟩
            have hx7 : Boxed w7 (w.heap.size) P Q G := Boxed.keep (by repeat (first | exact hx6 | apply Boxed.drew | apply Boxed.alloc)) hb7
            have gc0 := hx7.c0
            have gc1 := hx7.c1
            have gc2 := hx7.c2
            have gcl := hx7.lt
            have hz := hb7.size
            try simp only [World.size_alloc, World.size_drew] at hz
            go_wp2_with fail
            go_ret
            exact ⟨rfl, (by repeat (first | exact Below.refl _ _ | apply Below.drew | (refine Below.alloc ?_ (by first | omega | (simp <;> omega)) _) | (refine Below.trans ?_ (hb7.mono (by first | omega | (simp <;> omega)))) | (refine Below.trans ?_ (hb6.mono (by first | omega | (simp <;> omega)))) | (refine Below.trans ?_ (hb5.mono (by first | omega | (simp <;> omega)))) | (refine Below.trans ?_ (hb4.mono (by first | omega | (simp <;> omega)))) | (refine Below.trans ?_ (hb3.mono (by first | omega | (simp <;> omega)))) | (refine Below.trans ?_ (hb2.mono (by first | omega | (simp <;> omega)))) | (refine Below.trans ?_ (hb1.mono (by first | omega | (simp <;> omega))))))⟩
          case pos =>
            have HMA := Lib.hid hm
            obtain ⟨t, ht⟩ : ∃ t, powm a x P = t := ⟨_, rfl⟩
            have t0 : 0 ≤ t := by rw [← ht]; exact powm_nonneg (by omega)
            have HT := Lib.hid ht
            obtain ⟨i, i0, i1, ic⟩ := HG.out.pP.inv (HG.out.nd hm)
            have HI := Lib.hid (show InvS P a true i from .inl ⟨rfl, i0, i1, ic⟩)
            obtain ⟨m, hmm⟩ : ∃ m, a * b % P = m := ⟨_, rfl⟩
            have m0 : 0 ≤ m := by rw [← hmm]; exact Int.emod_nonneg _ (by omega)
            have HM := Lib.hid hmm
            have HMT := Lib.hid (show Mem P Q t by rw [← HT.out]; exact HG.out.mem_pow hm x)
            have HMI := Lib.hid (show Mem P Q i from HG.out.mem_inv hm (by rw [ic.emod_eq]; exact HG.out.one) i0 i1)
            obtain ⟨mb, hmb⟩ : ∃ mb : Bool, mb = true ↔ Has P Q G ∧ Mem P Q b := by
              by_cases h : Has P Q G ∧ Mem P Q b
              · exact ⟨true, by simp [h]⟩
              · exact ⟨false, by simp [h]⟩
            have HMB := Lib.hid hmb
            have HMM := Lib.hid (show (mb = true ↔ Has P Q G ∧ Mem P Q m) by
              rw [hmb, ← hmm]
              exact ⟨fun h => ⟨h.1, HG.out.mem_mul hm h.2⟩, fun h => ⟨h.1, HG.out.mem_div hm h.2 hb0 hb⟩⟩)
            clear hm ht hmm hmb ic
            go_enter Try.func9, Try.ntmps9
            go_wp2_with fail
            refine (alive30 _).mono ?_
            rintro e w1 ⟨rfl, hb1⟩
            have hx1 : Boxed w1 (w.heap.size) P Q G := Boxed.keep (by repeat (first | exact hx0 | apply Boxed.drew | apply Boxed.alloc)) hb1
            have gc0 := hx1.c0
            have gc1 := hx1.c1
            have gc2 := hx1.c2
            have gcl := hx1.lt
            have hz := hb1.size
            try simp only [World.size_alloc, World.size_drew] at hz
            go_wp2_with fail
            refine (gcheck_any P Q G 0 _ hP hQ hG HV0.out).mono ?_
            rintro e w2 ⟨rfl, hb2⟩
            have hx2 : Boxed w2 (w.heap.size) P Q G := Boxed.keep (by repeat (first | exact hx1 | apply Boxed.drew | apply Boxed.alloc)) hb2
            have gc0 := hx2.c0
            have gc1 := hx2.c1
            have gc2 := hx2.c2
            have gcl := hx2.lt
            have hz := hb2.size
            try simp only [World.size_alloc, World.size_drew] at hz
            go_wp2_with fail
            refine (pow_ok P Q G a 2 s _ HH.out ha0 ha (U64.of_lt (by omega) (by omega)) HS.out).mono ?_
            rintro e w3 ⟨rfl, hb3⟩
            have hx3 : Boxed w3 (w.heap.size) P Q G := Boxed.keep (by repeat (first | exact hx2 | apply Boxed.drew | apply Boxed.alloc)) hb3
            have gc0 := hx3.c0
            have gc1 := hx3.c1
            have gc2 := hx3.c2
            have gcl := hx3.lt
            have hz := hb3.size
            try simp only [World.size_alloc, World.size_drew] at hz
            go_wp2_with fail
            refine (member_is (r := true) _ hP hQ hG s0 (by simp [HH.out, HMS.out])).mono ?_
            rintro e w4 ⟨rfl, hb4⟩
            have hx4 : Boxed w4 (w.heap.size) P Q G := Boxed.keep (by repeat (first | exact hx3 | apply Boxed.drew | apply Boxed.alloc)) hb4
            have gc0 := hx4.c0
            have gc1 := hx4.c1
            have gc2 := hx4.c2
            have gcl := hx4.lt
            have hz := hb4.size
            try simp only [World.size_alloc, World.size_drew] at hz
            go_wp2_with fail
            refine (member_is (r := false) _ hP hQ hG (by omega) (by simp [Mem])).mono ?_
            rintro e w5 ⟨rfl, hb5⟩
            have hx5 : Boxed w5 (w.heap.size) P Q G := Boxed.keep (by repeat (first | exact hx4 | apply Boxed.drew | apply Boxed.alloc)) hb5
            have gc0 := hx5.c0
            have gc1 := hx5.c1
            have gc2 := hx5.c2
            have gcl := hx5.lt
            have hz := hb5.size
            try simp only [World.size_alloc, World.size_drew] at hz
            go_wp2_with fail
            refine (member_is (r := true) _ hP hQ hG (by omega) (by simp [HH.out, HG.out.mem_one])).mono ?_
            rintro e w6 ⟨rfl, hb6⟩
            have hx6 : Boxed w6 (w.heap.size) P Q G := Boxed.keep (by repeat (first | exact hx5 | apply Boxed.drew | apply Boxed.alloc)) hb6
            have gc0 := hx6.c0
            have gc1 := hx6.c1
            have gc2 := hx6.c2
            have gcl := hx6.lt
            have hz := hb6.size
            try simp only [World.size_alloc, World.size_drew] at hz
            go_wp2_with fail
            refine (member_is (r := true) _ hP hQ hG ha0 (by simp [HH.out, HMA.out])).mono ?_
            rintro e w7 ⟨rfl, hb7⟩
            have hx7 : Boxed w7 (w.heap.size) P Q G := Boxed.keep (by repeat (first | exact hx6 | apply Boxed.drew | apply Boxed.alloc)) hb7
            have gc0 := hx7.c0
            have gc1 := hx7.c1
            have gc2 := hx7.c2
            have gcl := hx7.lt
            have hz := hb7.size
            try simp only [World.size_alloc, World.size_drew] at hz
            go_wp2_with fail
            refine (pow_ok P Q G a x t _ HH.out ha0 ha ux HT.out).mono ?_
            rintro e w8 ⟨rfl, hb8⟩
            have hx8 : Boxed w8 (w.heap.size) P Q G := Boxed.keep (by repeat (first | exact hx7 | apply Boxed.drew | apply Boxed.alloc)) hb8
            have gc0 := hx8.c0
            have gc1 := hx8.c1
            have gc2 := hx8.c2
            have gcl := hx8.lt
            have hz := hb8.size
            try simp only [World.size_alloc, World.size_drew] at hz
            go_wp2_with fail
            refine (inv_ok P Q G a i 0 true _ HH.out ha0 ha HI.out rfl).mono ?_
            rintro e w9 ⟨rfl, hb9⟩
            have hx9 : Boxed w9 (w.heap.size) P Q G := Boxed.keep (by repeat (first | exact hx8 | apply Boxed.drew | apply Boxed.alloc)) hb9
            have gc0 := hx9.c0
            have gc1 := hx9.c1
            have gc2 := hx9.c2
            have gcl := hx9.lt
            have hz := hb9.size
            try simp only [World.size_alloc, World.size_drew] at hz
            go_wp2_with fail
            refine (mul_ok P Q G a b m _ HH.out ha0 ha hb0 hb HM.out).mono ?_
            rintro e w10 ⟨rfl, hb10⟩
            have hx10 : Boxed w10 (w.heap.size) P Q G := Boxed.keep (by repeat (first | exact hx9 | apply Boxed.drew | apply Boxed.alloc)) hb10
            have gc0 := hx10.c0
            have gc1 := hx10.c1
            have gc2 := hx10.c2
            have gcl := hx10.lt
            have hz := hb10.size
            try simp only [World.size_alloc, World.size_drew] at hz
            go_wp2_with fail
            go_region_held3 (fun w' => w'.cell? ⟨w.heap.size, 0, none⟩ = some (.int .u64 P) ∧ w'.cell? ⟨w.heap.size, 1, none⟩ = some (.int .u64 Q) ∧ w'.cell? ⟨w.heap.size, 2, none⟩ = some (.int .u64 G))
              (first | go_keep | (refine ⟨?_, ?_, ?_⟩ <;> first | assumption | go_simp))
              (first
                | (go_at_call 43; (with_reducible refine (member_is (r := true) (a := t) _ hP hQ hG t0 (by simp [HH.out, HMT.out])).mono ?_); rintro e w11 ⟨rfl, hb11⟩; have hx11 : Boxed w11 (w.heap.size) P Q G := Boxed.keep (by repeat (first | exact hx10 | apply Boxed.drew | apply Boxed.alloc)) hb11; have gc0 := hx11.c0; have gc1 := hx11.c1; have gc2 := hx11.c2; have gcl := hx11.lt; have hz := hb11.size; try simp only [World.size_alloc, World.size_drew] at hz)
                | (go_at_call 43; (with_reducible refine (member_is (r := true) (a := i) _ hP hQ hG i0 (by simp [HH.out, HMI.out])).mono ?_); rintro e w12 ⟨rfl, hb12⟩; have hx12 : Boxed w12 (w.heap.size) P Q G := Boxed.keep (by repeat (first | exact hx11 | apply Boxed.drew | apply Boxed.alloc)) hb12; have gc0 := hx12.c0; have gc1 := hx12.c1; have gc2 := hx12.c2; have gcl := hx12.lt; have hz := hb12.size; try simp only [World.size_alloc, World.size_drew] at hz)
                | (go_at_call 43; (with_reducible refine (member_is (r := mb) (a := m) _ hP hQ hG m0 HMM.out).mono ?_); rintro e w13 ⟨rfl, hb13⟩; have hx13 : Boxed w13 (w.heap.size) P Q G := Boxed.keep (by repeat (first | exact hx12 | apply Boxed.drew | apply Boxed.alloc)) hb13; have gc0 := hx13.c0; have gc1 := hx13.c1; have gc2 := hx13.c2; have gcl := hx13.lt; have hz := hb13.size; try simp only [World.size_alloc, World.size_drew] at hz)
                | (go_at_call 43; (with_reducible refine (member_is (r := mb) (a := b) _ hP hQ hG hb0 HMB.out).mono ?_); rintro e w14 ⟨rfl, hb14⟩; have hx14 : Boxed w14 (w.heap.size) P Q G := Boxed.keep (by repeat (first | exact hx13 | apply Boxed.drew | apply Boxed.alloc)) hb14; have gc0 := hx14.c0; have gc1 := hx14.c1; have gc2 := hx14.c2; have gcl := hx14.lt; have hz := hb14.size; try simp only [World.size_alloc, World.size_drew] at hz)
              )
            go_wp2_with fail
            go_ret
            exact ⟨rfl, (by repeat (first | exact Below.refl _ _ | apply Below.drew | (refine Below.alloc ?_ (by first | omega | (simp <;> omega)) _) | (refine Below.trans ?_ (hb14.mono (by first | omega | (simp <;> omega)))) | (refine Below.trans ?_ (hb13.mono (by first | omega | (simp <;> omega)))) | (refine Below.trans ?_ (hb12.mono (by first | omega | (simp <;> omega)))) | (refine Below.trans ?_ (hb11.mono (by first | omega | (simp <;> omega)))) | (refine Below.trans ?_ (hb10.mono (by first | omega | (simp <;> omega)))) | (refine Below.trans ?_ (hb9.mono (by first | omega | (simp <;> omega)))) | (refine Below.trans ?_ (hb8.mono (by first | omega | (simp <;> omega)))) | (refine Below.trans ?_ (hb7.mono (by first | omega | (simp <;> omega)))) | (refine Below.trans ?_ (hb6.mono (by first | omega | (simp <;> omega)))) | (refine Below.trans ?_ (hb5.mono (by first | omega | (simp <;> omega)))) | (refine Below.trans ?_ (hb4.mono (by first | omega | (simp <;> omega)))) | (refine Below.trans ?_ (hb3.mono (by first | omega | (simp <;> omega)))) | (refine Below.trans ?_ (hb2.mono (by first | omega | (simp <;> omega)))) | (refine Below.trans ?_ (hb1.mono (by first | omega | (simp <;> omega))))))⟩


set_option maxRecDepth 100000 in
theorem lifted (os : Os) (started : os.Started) (H : Type) (enc : TypeId × Value → H) :
    ReturnsInHanded {} Try.checked os 9 .any (Rows.groupMembersSpec.pre6 enc Try.prog Try.f9 Rows.groupMembersRow.domain false) (Rows.groupMembersSpec.post enc Try.prog Try.f9 false true false false) := by
  refine returnsInHanded_of_change (C := Try.checked) own started (by kernel_rfl) Try.func9
    (ChangeSpec.witness6 (enc := enc) (C := Try.checked) false ⟨#[], #[.agg #[.int .u64 0, .int .u64 0, .int .u64 0], .int .u64 0, .int .u64 0, .int .u64 0], []⟩ 8 (by kernel_rfl) (by kernel_rfl) (by kernel_rfl) (by kernel_rfl)) ?_
  intro W base args ds gs before hval0 hW _ _
  have hval : ∀ (j : Nat) t v, Try.f9.params[j]? = some t → args[j]? = some v → Value.okWide Try.prog W .any base t v := hval0
  have hW' := hW
  obtain ⟨p, q, hA0, hV, rfl, hfz, hnd⟩ := hW
  have hA : DataW.TrodAll enc Try.prog W 0 (fun _ => true) true Try.f9.params.toList args.toList ds p := hA0
  rw [Try.params9] at hA hval
  have hK := hA
  obtain ⟨v0, vs0, d0, ds0, p0, q0, hargs, rfl, rfl, h0, r0⟩ := trodAll_cons hA
  obtain ⟨v1, vs1, d1, ds1, p1, q1, rfl, rfl, rfl, h1, r1⟩ := trodAll_cons r0
  obtain ⟨v2, vs2, d2, ds2, p2, q2, rfl, rfl, rfl, h2, r2⟩ := trodAll_cons r1
  obtain ⟨v3, vs3, d3, ds3, p3, q3, rfl, rfl, rfl, h3, r3⟩ := trodAll_cons r2
  obtain ⟨rfl, rfl, rfl⟩ := trodAll_nil r3
  obtain rfl : args = #[v0, v1, v2, v3] := by cases args; simp_all
  obtain ⟨rfl, rfl⟩ := trodVars_none hV
  obtain ⟨P, Q, G, rfl, uP, uQ, uG⟩ := open_group (hval 0 24 v0 rfl rfl) h0
  obtain ⟨a, rfl, ua⟩ := open_u64 (hval 1 22 v1 rfl rfl) h1
  obtain ⟨b, rfl, ub⟩ := open_u64 (hval 2 22 v2 rfl rfl) h2
  obtain ⟨x, rfl, ux⟩ := open_u64 (hval 3 22 v3 rfl rfl) h3
  clear hA0 hval0
  refine (walk P Q G a b x W uP uQ uG ua ub ux).mono fun e W' ⟨he, bel⟩ => ?_
  subst he
  exact ⟨_, rfl, _, _, _, [], _, [], hW', trodAll_mk1 (shut_bool Try.underlying4 _), trodAll_stays laidOut (by kernel_rfl) hK bel, rfl, bel.frame _, fun h => by cases h⟩

theorem over : Rows.groupMembersRow.holds Try.pinned (OpenSpec.ofChange Rows.groupMembersSpec) :=
  OpenClaim.holds_of_wide 9 Try.f9 rfl rfl rfl rfl rfl rfl rfl ⟨rfl, rfl, rfl, rfl, rfl⟩ rfl rfl rfl rfl rfl (by kernel_rfl) Try.func9 (by kernel_rfl)
    (of_decide_eq_true (by kernel_rfl)) (by unfold Func.isWrapper; first | (rw [if_pos (by decide +kernel)]; kernel_rfl) | (rw [if_neg (by decide +kernel)]; exact ⟨rfl, rfl⟩))
    (fun os started H enc _ => lifted os started H enc)

theorem proved : Rows.GroupMembersSaid := over
#print axioms proved
end Go.Proofs.Ytjdfjgphjdcnmaa.lawMembers
