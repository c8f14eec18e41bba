/- GroupSums: the statement: for every input the law returns true, and the arguments read as before. -/
import Derived.Test.YtjdfjgphjdcnmaaAux30
import Derived.Test.YtjdfjgphjdcnmaaOpen
import Derived.Test.YtjdfjgphjdcnmaaRows
namespace Go.Proofs.Ytjdfjgphjdcnmaa.lawSums
open Go.ChangeShapes Go.WideShapes Go.ChangeAt Go.RowKit Num
set_option linter.unusedSimpArgs false
set_option linter.unusedVariables false

set_option maxRecDepth 100000 in
set_option maxHeartbeats 3200000 in
theorem walk (P Q G a x y : Int) (w : World) (uP : U64 P) (uQ : U64 Q) (uG : U64 G) (ua : U64 a) (ux : U64 x) (uy : U64 y) :
    Calls Try.prog 12 #[.agg #[.int .u64 P, .int .u64 Q, .int .u64 G], .int .u64 a, .int .u64 x, .int .u64 y] w fun e w' => e = .returned (.bool true) ∧ Below w.heap.size w w' := by
  have hP := uP.1
  have hQ := uQ.1
  have hG := uG.1
  have hx0 := Boxed.new w P Q G 24
  by_cases hv : Valid P Q G
  case neg =>
    have HV1 := Lib.hid (show ValidS P Q G 300 from .inr ⟨hv, rfl⟩)
    clear hv
    go_enter Try.func12, Try.ntmps12
    go_wp2_with fail
    refine (alive30 _).mono ?_
    rintro e w1 ⟨rfl, hb1⟩
    have hx1 : Boxed w1 (w.heap.size) P Q G := Boxed.keep (by repeat (first | exact hx0 | apply Boxed.drew | apply Boxed.alloc)) hb1
    have gc0 := hx1.c0
    have gc1 := hx1.c1
    have gc2 := hx1.c2
    have gcl := hx1.lt
    have hz := hb1.size
    try simp only [World.size_alloc, World.size_drew] at hz
    go_wp2_with fail
    refine (gcheck_any P Q G 300 _ hP hQ hG HV1.out).mono ?_
    rintro e w2 ⟨rfl, hb2⟩
    have hx2 : Boxed w2 (w.heap.size) P Q G := Boxed.keep (by repeat (first | exact hx1 | apply Boxed.drew | apply Boxed.alloc)) hb2
    have gc0 := hx2.c0
    have gc1 := hx2.c1
    have gc2 := hx2.c2
    have gcl := hx2.lt
    have hz := hb2.size
    try simp only [World.size_alloc, World.size_drew] at hz
    go_wp2_with fail
    go_ret
    exact ⟨rfl, (by repeat (first | exact Below.refl _ _ | apply Below.drew | (refine Below.alloc ?_ (by first | omega | (simp <;> omega)) _) | (refine Below.trans ?_ (hb2.mono (by first | omega | (simp <;> omega)))) | (refine Below.trans ?_ (hb1.mono (by first | omega | (simp <;> omega))))))⟩
  case pos =>
    have HV0 := Lib.hid (show ValidS P Q G 0 from .inl ⟨hv, rfl⟩)
    have HH := Lib.hid hv.1
    have HG := Lib.hid hv.grp
    obtain ⟨p5, p3, _, pq, g2, gP⟩ := id hv.1
    have q2 : 2 ≤ Q := by omega
    have q3 : Q < 1073741824 := by omega
    have qP : Q < P := by omega
    clear hv pq
    have ha0 := ua.1
    have xz0 := ux.1
    have yz0 := uy.1
    by_cases ha : a < P
    case neg =>
      have ha' : P ≤ a := by omega
      clear ha
      go_enter Try.func12, Try.ntmps12
      go_wp2_with fail
      refine (alive30 _).mono ?_
      rintro e w1 ⟨rfl, hb1⟩
      have hx1 : Boxed w1 (w.heap.size) P Q G := Boxed.keep (by repeat (first | exact hx0 | apply Boxed.drew | apply Boxed.alloc)) hb1
      have gc0 := hx1.c0
      have gc1 := hx1.c1
      have gc2 := hx1.c2
      have gcl := hx1.lt
      have hz := hb1.size
      try simp only [World.size_alloc, World.size_drew] at hz
      go_wp2_with fail
      refine (gcheck_any P Q G 0 _ hP hQ hG HV0.out).mono ?_
      rintro e w2 ⟨rfl, hb2⟩
      have hx2 : Boxed w2 (w.heap.size) P Q G := Boxed.keep (by repeat (first | exact hx1 | apply Boxed.drew | apply Boxed.alloc)) hb2
      have gc0 := hx2.c0
      have gc1 := hx2.c1
      have gc2 := hx2.c2
      have gcl := hx2.lt
      have hz := hb2.size
      try simp only [World.size_alloc, World.size_drew] at hz
      go_wp2_with fail
      go_ret
      exact ⟨rfl, (by repeat (first | exact Below.refl _ _ | apply Below.drew | (refine Below.alloc ?_ (by first | omega | (simp <;> omega)) _) | (refine Below.trans ?_ (hb2.mono (by first | omega | (simp <;> omega)))) | (refine Below.trans ?_ (hb1.mono (by first | omega | (simp <;> omega))))))⟩
    case pos =>
      by_cases hm : Mem P Q a
      case neg =>
        have HM := Lib.hid hm
        clear hm
        go_enter Try.func12, Try.ntmps12
        go_wp2_with fail
        refine (alive30 _).mono ?_
        rintro e w1 ⟨rfl, hb1⟩
        have hx1 : Boxed w1 (w.heap.size) P Q G := Boxed.keep (by repeat (first | exact hx0 | apply Boxed.drew | apply Boxed.alloc)) hb1
        have gc0 := hx1.c0
        have gc1 := hx1.c1
        have gc2 := hx1.c2
        have gcl := hx1.lt
        have hz := hb1.size
        try simp only [World.size_alloc, World.size_drew] at hz
        go_wp2_with fail
        refine (gcheck_any P Q G 0 _ hP hQ hG HV0.out).mono ?_
        rintro e w2 ⟨rfl, hb2⟩
        have hx2 : Boxed w2 (w.heap.size) P Q G := Boxed.keep (by repeat (first | exact hx1 | apply Boxed.drew | apply Boxed.alloc)) hb2
        have gc0 := hx2.c0
        have gc1 := hx2.c1
        have gc2 := hx2.c2
        have gcl := hx2.lt
        have hz := hb2.size
        try simp only [World.size_alloc, World.size_drew] at hz
        go_wp2_with fail
        refine (member_is (r := false) _ hP hQ hG ha0 (by simp [HM.out])).mono ?_
        rintro e w3 ⟨rfl, hb3⟩
        have hx3 : Boxed w3 (w.heap.size) P Q G := Boxed.keep (by repeat (first | exact hx2 | apply Boxed.drew | apply Boxed.alloc)) hb3
        have gc0 := hx3.c0
        have gc1 := hx3.c1
        have gc2 := hx3.c2
        have gcl := hx3.lt
        have hz := hb3.size
        try simp only [World.size_alloc, World.size_drew] at hz
        go_wp2_with fail
        go_ret
        exact ⟨rfl, (by repeat (first | exact Below.refl _ _ | apply Below.drew | (refine Below.alloc ?_ (by first | omega | (simp <;> omega)) _) | (refine Below.trans ?_ (hb3.mono (by first | omega | (simp <;> omega)))) | (refine Below.trans ?_ (hb2.mono (by first | omega | (simp <;> omega)))) | (refine Below.trans ?_ (hb1.mono (by first | omega | (simp <;> omega))))))⟩
      case pos =>
        by_cases hx : x < Q
        case neg =>
          have hx' : Q ≤ x := by omega
          have HM := Lib.hid hm
          clear hx hm
          go_enter Try.func12, Try.ntmps12
          go_wp2_with fail
          refine (alive30 _).mono ?_
          rintro e w1 ⟨rfl, hb1⟩
          have hx1 : Boxed w1 (w.heap.size) P Q G := Boxed.keep (by repeat (first | exact hx0 | apply Boxed.drew | apply Boxed.alloc)) hb1
          have gc0 := hx1.c0
          have gc1 := hx1.c1
          have gc2 := hx1.c2
          have gcl := hx1.lt
          have hz := hb1.size
          try simp only [World.size_alloc, World.size_drew] at hz
          go_wp2_with fail
          refine (gcheck_any P Q G 0 _ hP hQ hG HV0.out).mono ?_
          rintro e w2 ⟨rfl, hb2⟩
          have hx2 : Boxed w2 (w.heap.size) P Q G := Boxed.keep (by repeat (first | exact hx1 | apply Boxed.drew | apply Boxed.alloc)) hb2
          have gc0 := hx2.c0
          have gc1 := hx2.c1
          have gc2 := hx2.c2
          have gcl := hx2.lt
          have hz := hb2.size
          try simp only [World.size_alloc, World.size_drew] at hz
          go_wp2_with fail
          refine (member_is (r := true) _ hP hQ hG ha0 (by simp [HM.out, HH.out])).mono ?_
          rintro e w3 ⟨rfl, hb3⟩
          have hx3 : Boxed w3 (w.heap.size) P Q G := Boxed.keep (by repeat (first | exact hx2 | apply Boxed.drew | apply Boxed.alloc)) hb3
          have gc0 := hx3.c0
          have gc1 := hx3.c1
          have gc2 := hx3.c2
          have gcl := hx3.lt
          have hz := hb3.size
          try simp only [World.size_alloc, World.size_drew] at hz
          go_wp2_with fail
          go_ret
          exact ⟨rfl, (by repeat (first | exact Below.refl _ _ | apply Below.drew | (refine Below.alloc ?_ (by first | omega | (simp <;> omega)) _) | (refine Below.trans ?_ (hb3.mono (by first | omega | (simp <;> omega)))) | (refine Below.trans ?_ (hb2.mono (by first | omega | (simp <;> omega)))) | (refine Below.trans ?_ (hb1.mono (by first | omega | (simp <;> omega))))))⟩
        case pos =>
          by_cases hy : y < Q
          case neg =>
            have hy' : Q ≤ y := by omega
            have HM := Lib.hid hm
            clear hy hm
            go_enter Try.func12, Try.ntmps12
            go_wp2_with fail
            refine (alive30 _).mono ?_
            rintro e w1 ⟨rfl, hb1⟩
            have hx1 : Boxed w1 (w.heap.size) P Q G := Boxed.keep (by repeat (first | exact hx0 | apply Boxed.drew | apply Boxed.alloc)) hb1
            have gc0 := hx1.c0
            have gc1 := hx1.c1
            have gc2 := hx1.c2
            have gcl := hx1.lt
            have hz := hb1.size
            try simp only [World.size_alloc, World.size_drew] at hz
            go_wp2_with fail
            refine (gcheck_any P Q G 0 _ hP hQ hG HV0.out).mono ?_
            rintro e w2 ⟨rfl, hb2⟩
            have hx2 : Boxed w2 (w.heap.size) P Q G := Boxed.keep (by repeat (first | exact hx1 | apply Boxed.drew | apply Boxed.alloc)) hb2
            have gc0 := hx2.c0
            have gc1 := hx2.c1
            have gc2 := hx2.c2
            have gcl := hx2.lt
            have hz := hb2.size
            try simp only [World.size_alloc, World.size_drew] at hz
            go_wp2_with fail
            refine (member_is (r := true) _ hP hQ hG ha0 (by simp [HM.out, HH.out])).mono ?_
            rintro e w3 ⟨rfl, hb3⟩
            have hx3 : Boxed w3 (w.heap.size) P Q G := Boxed.keep (by repeat (first | exact hx2 | apply Boxed.drew | apply Boxed.alloc)) hb3
            have gc0 := hx3.c0
            have gc1 := hx3.c1
            have gc2 := hx3.c2
            have gcl := hx3.lt
            have hz := hb3.size
            try simp only [World.size_alloc, World.size_drew] at hz
            go_wp2_with fail
            go_ret
            exact ⟨rfl, (by repeat (first | exact Below.refl _ _ | apply Below.drew | (refine Below.alloc ?_ (by first | omega | (simp <;> omega)) _) | (refine Below.trans ?_ (hb3.mono (by first | omega | (simp <;> omega)))) | (refine Below.trans ?_ (hb2.mono (by first | omega | (simp <;> omega)))) | (refine Below.trans ?_ (hb1.mono (by first | omega | (simp <;> omega))))))⟩
          case pos =>
            have HM := Lib.hid hm
            have hgm := HG.out
            have UX := Lib.hid (U64.of_lt xz0 (by omega))
            have UY := Lib.hid (U64.of_lt yz0 (by omega))
            obtain ⟨ax, hax⟩ : ∃ ax, powm a x P = ax := ⟨_, rfl⟩
            have HAX := Lib.hid hax
            have ax0 : 0 ≤ ax := by rw [← hax]; exact powm_nonneg (by omega)
            have axP : ax < P := by rw [← hax]; exact powm_lt (by omega)
            obtain ⟨ay, hay⟩ : ∃ ay, powm a y P = ay := ⟨_, rfl⟩
            have HAY := Lib.hid hay
            have ay0 : 0 ≤ ay := by rw [← hay]; exact powm_nonneg (by omega)
            have ayP : ay < P := by rw [← hay]; exact powm_lt (by omega)
            obtain ⟨s, hs⟩ : ∃ s, (x + y) % Q = s := ⟨_, rfl⟩
            have HS := Lib.hid hs
            have s0 : 0 ≤ s := by rw [← hs]; exact Int.emod_nonneg _ (by omega)
            have US := Lib.hid (show U64 s from U64.of_lt s0 (by
              have : s < Q := by rw [← hs]; exact Int.emod_lt_of_pos _ (by omega)
              omega))
            obtain ⟨d, hd⟩ : ∃ d, (x - y) % Q = d := ⟨_, rfl⟩
            have HD := Lib.hid hd
            have d0 : 0 ≤ d := by rw [← hd]; exact Int.emod_nonneg _ (by omega)
            have UD := Lib.hid (show U64 d from U64.of_lt d0 (by
              have : d < Q := by rw [← hd]; exact Int.emod_lt_of_pos _ (by omega)
              omega))
            obtain ⟨m, hm'⟩ : ∃ m, x * y % Q = m := ⟨_, rfl⟩
            have HP := Lib.hid hm'
            have m0 : 0 ≤ m := by rw [← hm']; exact Int.emod_nonneg _ (by omega)
            have UM := Lib.hid (show U64 m from U64.of_lt m0 (by
              have : m < Q := by rw [← hm']; exact Int.emod_lt_of_pos _ (by omega)
              omega))
            have hmy : Mem P Q ay := by rw [← hay]; exact hgm.mem_pow hm y
            obtain ⟨u, u0, uP1, uc⟩ := hgm.pP.inv (hgm.nd hmy)
            have HU := Lib.hid (show InvS P ay true u from .inl ⟨rfl, u0, uP1, uc⟩)
            obtain ⟨one, hone⟩ : ∃ one, ax * ay % P = one := ⟨_, rfl⟩
            have HO := Lib.hid hone
            have HOS := Lib.hid (show powm a s P = one by
              rw [← hs, ← hone, ← hax, ← hay, ← powm_add a P xz0 yz0]
              exact hgm.period_cg hm (by rw [hs]; exact s0) (by omega) (cg_emod _ _))
            obtain ⟨three, hthree⟩ : ∃ three, ax * u % P = three := ⟨_, rfl⟩
            have HT := Lib.hid hthree
            have HTD := Lib.hid (show powm a d P = three by
              have h1 : Cg P (ay * powm a d P) (ay * (ax * u)) := by
                have h2 : powm a (y + d) P = ax := by
                  rw [← hax]; exact hgm.period_cg hm (by omega) xz0 (by
                    rw [← hd]
                    have := (Cg.refl Q y).add (cg_emod Q (x - y))
                    rwa [show y + (x - y) = x by omega] at this)
                rw [powm_add a P yz0 d0, hay] at h2
                have h3 : Cg P (ay * powm a d P) ax := (cg_emod P _).symm.trans (Cg.of_eq h2)
                have h4 : Cg P (ay * (ax * u)) (ax * 1) := by
                  rw [show ay * (ax * u) = ax * (ay * u) by ac_rfl]; exact uc.mul_left ax
                rw [Int.mul_one] at h4
                exact h3.trans h4.symm
              have h5 := (hgm.pP.cancel (hgm.nd hmy) h1).trans (cg_emod P (ax * u)).symm
              rw [hthree] at h5
              exact h5.eq (powm_nonneg (by omega)) (powm_lt (by omega)) (by rw [← hthree]; exact Int.emod_nonneg _ (by omega)) (by rw [← hthree]; exact Int.emod_lt_of_pos _ (by omega)))
            obtain ⟨five, hfive⟩ : ∃ five, powm ax y P = five := ⟨_, rfl⟩
            have HF := Lib.hid hfive
            have HFM := Lib.hid (show powm a m P = five by
              rw [← hfive, ← hax, ← powm_mul a P xz0 yz0, ← hm']
              exact hgm.period_cg hm (by rw [hm']; exact m0) (Int.mul_nonneg xz0 yz0) (cg_emod _ _))
            clear hgm hm hax hay hs hd hm' hone hthree hfive hmy uc
            go_enter Try.func12, Try.ntmps12
            go_wp2_with fail
            refine (alive30 _).mono ?_
            rintro e w1 ⟨rfl, hb1⟩
            have hx1 : Boxed w1 (w.heap.size) P Q G := Boxed.keep (by repeat (first | exact hx0 | apply Boxed.drew | apply Boxed.alloc)) hb1
            have gc0 := hx1.c0
            have gc1 := hx1.c1
            have gc2 := hx1.c2
            have gcl := hx1.lt
            have hz := hb1.size
            try simp only [World.size_alloc, World.size_drew] at hz
            go_wp2_with fail
            refine (gcheck_any P Q G 0 _ hP hQ hG HV0.out).mono ?_
            rintro e w2 ⟨rfl, hb2⟩
            have hx2 : Boxed w2 (w.heap.size) P Q G := Boxed.keep (by repeat (first | exact hx1 | apply Boxed.drew | apply Boxed.alloc)) hb2
            have gc0 := hx2.c0
            have gc1 := hx2.c1
            have gc2 := hx2.c2
            have gcl := hx2.lt
            have hz := hb2.size
            try simp only [World.size_alloc, World.size_drew] at hz
            go_wp2_with fail
            refine (member_is (r := true) _ hP hQ hG ha0 (by simp [HM.out, HH.out])).mono ?_
            rintro e w3 ⟨rfl, hb3⟩
            have hx3 : Boxed w3 (w.heap.size) P Q G := Boxed.keep (by repeat (first | exact hx2 | apply Boxed.drew | apply Boxed.alloc)) hb3
            have gc0 := hx3.c0
            have gc1 := hx3.c1
            have gc2 := hx3.c2
            have gcl := hx3.lt
            have hz := hb3.size
            try simp only [World.size_alloc, World.size_drew] at hz
            go_wp2_with fail
            refine (pow_ok P Q G a x ax _ HH.out ha0 ha UX.out HAX.out).mono ?_
            rintro e w4 ⟨rfl, hb4⟩
            have hx4 : Boxed w4 (w.heap.size) P Q G := Boxed.keep (by repeat (first | exact hx3 | apply Boxed.drew | apply Boxed.alloc)) hb4
            have gc0 := hx4.c0
            have gc1 := hx4.c1
            have gc2 := hx4.c2
            have gcl := hx4.lt
            have hz := hb4.size
            try simp only [World.size_alloc, World.size_drew] at hz
            go_wp2_with fail
            refine (pow_ok P Q G a y ay _ HH.out ha0 ha UY.out HAY.out).mono ?_
            rintro e w5 ⟨rfl, hb5⟩
            have hx5 : Boxed w5 (w.heap.size) P Q G := Boxed.keep (by repeat (first | exact hx4 | apply Boxed.drew | apply Boxed.alloc)) hb5
            have gc0 := hx5.c0
            have gc1 := hx5.c1
            have gc2 := hx5.c2
            have gcl := hx5.lt
            have hz := hb5.size
            try simp only [World.size_alloc, World.size_drew] at hz
            go_wp2_with fail
            refine (addExp_ok P Q G x y s _ HH.out xz0 hx yz0 hy HS.out).mono ?_
            rintro e w6 ⟨rfl, hb6⟩
            have hx6 : Boxed w6 (w.heap.size) P Q G := Boxed.keep (by repeat (first | exact hx5 | apply Boxed.drew | apply Boxed.alloc)) hb6
            have gc0 := hx6.c0
            have gc1 := hx6.c1
            have gc2 := hx6.c2
            have gcl := hx6.lt
            have hz := hb6.size
            try simp only [World.size_alloc, World.size_drew] at hz
            go_wp2_with fail
            refine (subExp_ok P Q G x y d _ HH.out xz0 hx yz0 hy HD.out).mono ?_
            rintro e w7 ⟨rfl, hb7⟩
            have hx7 : Boxed w7 (w.heap.size) P Q G := Boxed.keep (by repeat (first | exact hx6 | apply Boxed.drew | apply Boxed.alloc)) hb7
            have gc0 := hx7.c0
            have gc1 := hx7.c1
            have gc2 := hx7.c2
            have gcl := hx7.lt
            have hz := hb7.size
            try simp only [World.size_alloc, World.size_drew] at hz
            go_wp2_with fail
            refine (mulExp_ok P Q G x y m _ HH.out xz0 hx yz0 hy HP.out).mono ?_
            rintro e w8 ⟨rfl, hb8⟩
            have hx8 : Boxed w8 (w.heap.size) P Q G := Boxed.keep (by repeat (first | exact hx7 | apply Boxed.drew | apply Boxed.alloc)) hb8
            have gc0 := hx8.c0
            have gc1 := hx8.c1
            have gc2 := hx8.c2
            have gcl := hx8.lt
            have hz := hb8.size
            try simp only [World.size_alloc, World.size_drew] at hz
            go_wp2_with fail
            refine (inv_ok P Q G ay u 0 true _ HH.out ay0 ayP HU.out rfl).mono ?_
            rintro e w9 ⟨rfl, hb9⟩
            have hx9 : Boxed w9 (w.heap.size) P Q G := Boxed.keep (by repeat (first | exact hx8 | apply Boxed.drew | apply Boxed.alloc)) hb9
            have gc0 := hx9.c0
            have gc1 := hx9.c1
            have gc2 := hx9.c2
            have gcl := hx9.lt
            have hz := hb9.size
            try simp only [World.size_alloc, World.size_drew] at hz
            go_wp2_with fail
            refine (mul_ok P Q G ax ay one _ HH.out ax0 axP ay0 ayP HO.out).mono ?_
            rintro e w10 ⟨rfl, hb10⟩
            have hx10 : Boxed w10 (w.heap.size) P Q G := Boxed.keep (by repeat (first | exact hx9 | apply Boxed.drew | apply Boxed.alloc)) hb10
            have gc0 := hx10.c0
            have gc1 := hx10.c1
            have gc2 := hx10.c2
            have gcl := hx10.lt
            have hz := hb10.size
            try simp only [World.size_alloc, World.size_drew] at hz
            go_wp2_with fail
            refine (pow_ok P Q G a s one _ HH.out ha0 ha US.out HOS.out).mono ?_
            rintro e w11 ⟨rfl, hb11⟩
            have hx11 : Boxed w11 (w.heap.size) P Q G := Boxed.keep (by repeat (first | exact hx10 | apply Boxed.drew | apply Boxed.alloc)) hb11
            have gc0 := hx11.c0
            have gc1 := hx11.c1
            have gc2 := hx11.c2
            have gcl := hx11.lt
            have hz := hb11.size
            try simp only [World.size_alloc, World.size_drew] at hz
            go_wp2_with fail
            refine (mul_ok P Q G ax u three _ HH.out ax0 axP u0 uP1 HT.out).mono ?_
            rintro e w12 ⟨rfl, hb12⟩
            have hx12 : Boxed w12 (w.heap.size) P Q G := Boxed.keep (by repeat (first | exact hx11 | apply Boxed.drew | apply Boxed.alloc)) hb12
            have gc0 := hx12.c0
            have gc1 := hx12.c1
            have gc2 := hx12.c2
            have gcl := hx12.lt
            have hz := hb12.size
            try simp only [World.size_alloc, World.size_drew] at hz
            go_wp2_with fail
            refine (pow_ok P Q G a d three _ HH.out ha0 ha UD.out HTD.out).mono ?_
            rintro e w13 ⟨rfl, hb13⟩
            have hx13 : Boxed w13 (w.heap.size) P Q G := Boxed.keep (by repeat (first | exact hx12 | apply Boxed.drew | apply Boxed.alloc)) hb13
            have gc0 := hx13.c0
            have gc1 := hx13.c1
            have gc2 := hx13.c2
            have gcl := hx13.lt
            have hz := hb13.size
            try simp only [World.size_alloc, World.size_drew] at hz
            go_wp2_with fail
            refine (pow_ok P Q G ax y five _ HH.out ax0 axP UY.out HF.out).mono ?_
            rintro e w14 ⟨rfl, hb14⟩
            have hx14 : Boxed w14 (w.heap.size) P Q G := Boxed.keep (by repeat (first | exact hx13 | apply Boxed.drew | apply Boxed.alloc)) hb14
            have gc0 := hx14.c0
            have gc1 := hx14.c1
            have gc2 := hx14.c2
            have gcl := hx14.lt
            have hz := hb14.size
            try simp only [World.size_alloc, World.size_drew] at hz
            go_wp2_with fail
            refine (pow_ok P Q G a m five _ HH.out ha0 ha UM.out HFM.out).mono ?_
            rintro e w15 ⟨rfl, hb15⟩
            have hx15 : Boxed w15 (w.heap.size) P Q G := Boxed.keep (by repeat (first | exact hx14 | apply Boxed.drew | apply Boxed.alloc)) hb15
            have gc0 := hx15.c0
            have gc1 := hx15.c1
            have gc2 := hx15.c2
            have gcl := hx15.lt
            have hz := hb15.size
            try simp only [World.size_alloc, World.size_drew] at hz
            go_wp2_with fail
            refine (is_yes one _).mono ?_
            rintro e w0 ⟨rfl, rfl⟩
            go_wp2_with fail
            refine (is_yes three _).mono ?_
            rintro e w0 ⟨rfl, rfl⟩
            go_wp2_with fail
            refine (is_yes five _).mono ?_
            rintro e w0 ⟨rfl, rfl⟩
            go_wp2_with fail
            go_ret
            exact ⟨rfl, (by repeat (first | exact Below.refl _ _ | apply Below.drew | (refine Below.alloc ?_ (by first | omega | (simp <;> omega)) _) | (refine Below.trans ?_ (hb15.mono (by first | omega | (simp <;> omega)))) | (refine Below.trans ?_ (hb14.mono (by first | omega | (simp <;> omega)))) | (refine Below.trans ?_ (hb13.mono (by first | omega | (simp <;> omega)))) | (refine Below.trans ?_ (hb12.mono (by first | omega | (simp <;> omega)))) | (refine Below.trans ?_ (hb11.mono (by first | omega | (simp <;> omega)))) | (refine Below.trans ?_ (hb10.mono (by first | omega | (simp <;> omega)))) | (refine Below.trans ?_ (hb9.mono (by first | omega | (simp <;> omega)))) | (refine Below.trans ?_ (hb8.mono (by first | omega | (simp <;> omega)))) | (refine Below.trans ?_ (hb7.mono (by first | omega | (simp <;> omega)))) | (refine Below.trans ?_ (hb6.mono (by first | omega | (simp <;> omega)))) | (refine Below.trans ?_ (hb5.mono (by first | omega | (simp <;> omega)))) | (refine Below.trans ?_ (hb4.mono (by first | omega | (simp <;> omega)))) | (refine Below.trans ?_ (hb3.mono (by first | omega | (simp <;> omega)))) | (refine Below.trans ?_ (hb2.mono (by first | omega | (simp <;> omega)))) | (refine Below.trans ?_ (hb1.mono (by first | omega | (simp <;> omega))))))⟩


set_option maxRecDepth 100000 in
theorem lifted (os : Os) (started : os.Started) (H : Type) (enc : TypeId × Value → H) :
    ReturnsInHanded {} Try.checked os 12 .any (Rows.groupSumsSpec.pre6 enc Try.prog Try.f12 Rows.groupSumsRow.domain false) (Rows.groupSumsSpec.post enc Try.prog Try.f12 false true false false) := by
  refine returnsInHanded_of_change (C := Try.checked) own started (by kernel_rfl) Try.func12
    (ChangeSpec.witness6 (enc := enc) (C := Try.checked) false ⟨#[], #[.agg #[.int .u64 0, .int .u64 0, .int .u64 0], .int .u64 0, .int .u64 0, .int .u64 0], []⟩ 8 (by kernel_rfl) (by kernel_rfl) (by kernel_rfl) (by kernel_rfl)) ?_
  intro W base args ds gs before hval0 hW _ _
  have hval : ∀ (j : Nat) t v, Try.f12.params[j]? = some t → args[j]? = some v → Value.okWide Try.prog W .any base t v := hval0
  have hW' := hW
  obtain ⟨p, q, hA0, hV, rfl, hfz, hnd⟩ := hW
  have hA : DataW.TrodAll enc Try.prog W 0 (fun _ => true) true Try.f12.params.toList args.toList ds p := hA0
  rw [Try.params12] at hA hval
  have hK := hA
  obtain ⟨v0, vs0, d0, ds0, p0, q0, hargs, rfl, rfl, h0, r0⟩ := trodAll_cons hA
  obtain ⟨v1, vs1, d1, ds1, p1, q1, rfl, rfl, rfl, h1, r1⟩ := trodAll_cons r0
  obtain ⟨v2, vs2, d2, ds2, p2, q2, rfl, rfl, rfl, h2, r2⟩ := trodAll_cons r1
  obtain ⟨v3, vs3, d3, ds3, p3, q3, rfl, rfl, rfl, h3, r3⟩ := trodAll_cons r2
  obtain ⟨rfl, rfl, rfl⟩ := trodAll_nil r3
  obtain rfl : args = #[v0, v1, v2, v3] := by cases args; simp_all
  obtain ⟨rfl, rfl⟩ := trodVars_none hV
  obtain ⟨P, Q, G, rfl, uP, uQ, uG⟩ := open_group (hval 0 24 v0 rfl rfl) h0
  obtain ⟨a, rfl, ua⟩ := open_u64 (hval 1 22 v1 rfl rfl) h1
  obtain ⟨x, rfl, ux⟩ := open_u64 (hval 2 22 v2 rfl rfl) h2
  obtain ⟨y, rfl, uy⟩ := open_u64 (hval 3 22 v3 rfl rfl) h3
  clear hA0 hval0
  refine (walk P Q G a x y W uP uQ uG ua ux uy).mono fun e W' ⟨he, bel⟩ => ?_
  subst he
  exact ⟨_, rfl, _, _, _, [], _, [], hW', trodAll_mk1 (shut_bool Try.underlying4 _), trodAll_stays laidOut (by kernel_rfl) hK bel, rfl, bel.frame _, fun h => by cases h⟩

theorem over : Rows.groupSumsRow.holds Try.pinned (OpenSpec.ofChange Rows.groupSumsSpec) :=
  OpenClaim.holds_of_wide 12 Try.f12 rfl rfl rfl rfl rfl rfl rfl ⟨rfl, rfl, rfl, rfl, rfl⟩ rfl rfl rfl rfl rfl (by kernel_rfl) Try.func12 (by kernel_rfl)
    (of_decide_eq_true (by kernel_rfl)) (by unfold Func.isWrapper; first | (rw [if_pos (by decide +kernel)]; kernel_rfl) | (rw [if_neg (by decide +kernel)]; exact ⟨rfl, rfl⟩))
    (fun os started H enc _ => lifted os started H enc)

theorem proved : Rows.GroupSumsSaid := over
#print axioms proved
end Go.Proofs.Ytjdfjgphjdcnmaa.lawSums
