/- GroupInverses: the statement: for every input the law returns true, and the arguments read as before. -/
import Derived.Test.YtjdfjgphjdcnmaaAux30
import Derived.Test.YtjdfjgphjdcnmaaOpen
import Derived.Test.YtjdfjgphjdcnmaaRows
namespace Go.Proofs.Ytjdfjgphjdcnmaa.lawInverses
open Go.ChangeShapes Go.WideShapes Go.ChangeAt Go.RowKit Num
set_option linter.unusedSimpArgs false
set_option linter.unusedVariables false

theorem inv_or {m a : Int} (hm : 0 < m) : (∃ r, Inv m a r) ∨ Int.gcd a m ≠ 1 := by
  by_cases h : Int.gcd a m = 1
  · exact .inl (inv_of_gcd hm h)
  · exact .inr h

set_option maxRecDepth 100000 in
set_option maxHeartbeats 3200000 in
theorem walk (P Q G a x : Int) (w : World) (uP : U64 P) (uQ : U64 Q) (uG : U64 G) (ua : U64 a) (ux : U64 x) :
    Calls Try.prog 10 #[.agg #[.int .u64 P, .int .u64 Q, .int .u64 G], .int .u64 a, .int .u64 x] w fun e w' => e = .returned (.bool true) ∧ Below w.heap.size w w' := by
  have hP := uP.1
  have hQ := uQ.1
  have hG := uG.1
  have hx0 := Boxed.new w P Q G 24
  by_cases hH : Has P Q G
  case neg =>
    have HH := Lib.hid hH
    clear hH
    go_enter Try.func10, Try.ntmps10
    go_wp2_with fail
    refine (alive30 _).mono ?_
    rintro e w1 ⟨rfl, hb1⟩
    have hx1 : Boxed w1 (w.heap.size) P Q G := Boxed.keep (by repeat (first | exact hx0 | apply Boxed.drew | apply Boxed.alloc)) hb1
    have gc0 := hx1.c0
    have gc1 := hx1.c1
    have gc2 := hx1.c2
    have gcl := hx1.lt
    have hz := hb1.size
    try simp only [World.size_alloc, World.size_drew] at hz
    go_wp2_with fail
    refine (form_no P Q G _ hP hQ hG HH.out).mono ?_
    rintro e w2 ⟨rfl, hb2⟩
    have hx2 : Boxed w2 (w.heap.size) P Q G := Boxed.keep (by repeat (first | exact hx1 | apply Boxed.drew | apply Boxed.alloc)) hb2
    have gc0 := hx2.c0
    have gc1 := hx2.c1
    have gc2 := hx2.c2
    have gcl := hx2.lt
    have hz := hb2.size
    try simp only [World.size_alloc, World.size_drew] at hz
    go_wp2_with fail
    go_ret
    exact ⟨rfl, (by repeat (first | exact Below.refl _ _ | apply Below.drew | (refine Below.alloc ?_ (by first | omega | (simp <;> omega)) _) | (refine Below.trans ?_ (hb2.mono (by first | omega | (simp <;> omega)))) | (refine Below.trans ?_ (hb1.mono (by first | omega | (simp <;> omega))))))⟩
  case pos =>
    have HH := Lib.hid hH
    obtain ⟨p5, p3, _, pq, g2, gP⟩ := id hH
    have q2 : 2 ≤ Q := by omega
    have q3 : Q < 1073741824 := by omega
    have h1Q : 1 % Q = 1 := Int.emod_eq_of_lt (by omega) (by omega)
    clear hH pq
    by_cases ha : a < P
    case neg =>
      have ha' : P ≤ a := by omega
      clear ha
      go_enter Try.func10, Try.ntmps10
      go_wp2_with fail
      refine (alive30 _).mono ?_
      rintro e w1 ⟨rfl, hb1⟩
      have hx1 : Boxed w1 (w.heap.size) P Q G := Boxed.keep (by repeat (first | exact hx0 | apply Boxed.drew | apply Boxed.alloc)) hb1
      have gc0 := hx1.c0
      have gc1 := hx1.c1
      have gc2 := hx1.c2
      have gcl := hx1.lt
      have hz := hb1.size
      try simp only [World.size_alloc, World.size_drew] at hz
      go_wp2_with fail
      refine (form_yes P Q G _ HH.out).mono ?_
      rintro e w2 ⟨rfl, hb2⟩
      have hx2 : Boxed w2 (w.heap.size) P Q G := Boxed.keep (by repeat (first | exact hx1 | apply Boxed.drew | apply Boxed.alloc)) hb2
      have gc0 := hx2.c0
      have gc1 := hx2.c1
      have gc2 := hx2.c2
      have gcl := hx2.lt
      have hz := hb2.size
      try simp only [World.size_alloc, World.size_drew] at hz
      go_wp2_with fail
      go_ret
      exact ⟨rfl, (by repeat (first | exact Below.refl _ _ | apply Below.drew | (refine Below.alloc ?_ (by first | omega | (simp <;> omega)) _) | (refine Below.trans ?_ (hb2.mono (by first | omega | (simp <;> omega)))) | (refine Below.trans ?_ (hb1.mono (by first | omega | (simp <;> omega))))))⟩
    case pos =>
      by_cases hx : x < Q
      case neg =>
        have hx' : Q ≤ x := by omega
        clear hx
        go_enter Try.func10, Try.ntmps10
        go_wp2_with fail
        refine (alive30 _).mono ?_
        rintro e w1 ⟨rfl, hb1⟩
        have hx1 : Boxed w1 (w.heap.size) P Q G := Boxed.keep (by repeat (first | exact hx0 | apply Boxed.drew | apply Boxed.alloc)) hb1
        have gc0 := hx1.c0
        have gc1 := hx1.c1
        have gc2 := hx1.c2
        have gcl := hx1.lt
        have hz := hb1.size
        try simp only [World.size_alloc, World.size_drew] at hz
        go_wp2_with fail
        refine (form_yes P Q G _ HH.out).mono ?_
        rintro e w2 ⟨rfl, hb2⟩
        have hx2 : Boxed w2 (w.heap.size) P Q G := Boxed.keep (by repeat (first | exact hx1 | apply Boxed.drew | apply Boxed.alloc)) hb2
        have gc0 := hx2.c0
        have gc1 := hx2.c1
        have gc2 := hx2.c2
        have gcl := hx2.lt
        have hz := hb2.size
        try simp only [World.size_alloc, World.size_drew] at hz
        go_wp2_with fail
        go_ret
        exact ⟨rfl, (by repeat (first | exact Below.refl _ _ | apply Below.drew | (refine Below.alloc ?_ (by first | omega | (simp <;> omega)) _) | (refine Below.trans ?_ (hb2.mono (by first | omega | (simp <;> omega)))) | (refine Below.trans ?_ (hb1.mono (by first | omega | (simp <;> omega))))))⟩
      case pos =>
        have ha0 := ua.1
        have xz0 := ux.1
        by_cases hv : Valid P Q G
        case neg =>
          have HV1 := Lib.hid (show ValidS P Q G 300 from .inr ⟨hv, rfl⟩)
          clear hv
          rcases inv_or (m := P) (a := a) (by omega) with ⟨b, hb⟩ | hb
          case inl =>
            have HA := Lib.hid (show InvS P a true b from .inl ⟨rfl, hb⟩)
            have HB := Lib.hid (show 0 ≤ b ∧ b < P ∧ a * b % P = 1 from ⟨hb.1, hb.2.1, by rw [hb.2.2.emod_eq]; exact Int.emod_eq_of_lt (by omega) (by omega)⟩)
            clear hb
            rcases inv_or (m := Q) (a := x) (by omega) with ⟨y, hy⟩ | hy
            case inl =>
              have HX := Lib.hid (show InvS Q x true y from .inl ⟨rfl, hy⟩)
              have HY := Lib.hid (show 0 ≤ y ∧ y < Q ∧ x * y % Q = 1 from ⟨hy.1, hy.2.1, by rw [hy.2.2.emod_eq]; exact Int.emod_eq_of_lt (by omega) (by omega)⟩)
              clear hy
              go_enter Try.func10, Try.ntmps10
              go_wp2_with fail
              refine (alive30 _).mono ?_
              rintro e w1 ⟨rfl, hb1⟩
              have hx1 : Boxed w1 (w.heap.size) P Q G := Boxed.keep (by repeat (first | exact hx0 | apply Boxed.drew | apply Boxed.alloc)) hb1
              have gc0 := hx1.c0
              have gc1 := hx1.c1
              have gc2 := hx1.c2
              have gcl := hx1.lt
              have hz := hb1.size
              try simp only [World.size_alloc, World.size_drew] at hz
              go_wp2_with fail
              refine (form_yes P Q G _ HH.out).mono ?_
              rintro e w2 ⟨rfl, hb2⟩
              have hx2 : Boxed w2 (w.heap.size) P Q G := Boxed.keep (by repeat (first | exact hx1 | apply Boxed.drew | apply Boxed.alloc)) hb2
              have gc0 := hx2.c0
              have gc1 := hx2.c1
              have gc2 := hx2.c2
              have gcl := hx2.lt
              have hz := hb2.size
              try simp only [World.size_alloc, World.size_drew] at hz
              go_wp2_with fail
              refine (inv_ok P Q G a b 0 true _ HH.out ha0 ha HA.out rfl).mono ?_
              rintro e w3 ⟨rfl, hb3⟩
              have hx3 : Boxed w3 (w.heap.size) P Q G := Boxed.keep (by repeat (first | exact hx2 | apply Boxed.drew | apply Boxed.alloc)) hb3
              have gc0 := hx3.c0
              have gc1 := hx3.c1
              have gc2 := hx3.c2
              have gcl := hx3.lt
              have hz := hb3.size
              try simp only [World.size_alloc, World.size_drew] at hz
              go_wp2_with fail
              refine (invExp_ok P Q G x y 0 true _ HH.out xz0 hx HX.out rfl).mono ?_
              rintro e w4 ⟨rfl, hb4⟩
              have hx4 : Boxed w4 (w.heap.size) P Q G := Boxed.keep (by repeat (first | exact hx3 | apply Boxed.drew | apply Boxed.alloc)) hb4
              have gc0 := hx4.c0
              have gc1 := hx4.c1
              have gc2 := hx4.c2
              have gcl := hx4.lt
              have hz := hb4.size
              try simp only [World.size_alloc, World.size_drew] at hz
              go_wp2_with fail
              refine (gcheck_any P Q G 300 _ hP hQ hG HV1.out).mono ?_
              rintro e w5 ⟨rfl, hb5⟩
              have hx5 : Boxed w5 (w.heap.size) P Q G := Boxed.keep (by repeat (first | exact hx4 | apply Boxed.drew | apply Boxed.alloc)) hb5
              have gc0 := hx5.c0
              have gc1 := hx5.c1
              have gc2 := hx5.c2
              have gcl := hx5.lt
              have hz := hb5.size
              try simp only [World.size_alloc, World.size_drew] at hz
              go_wp2_with fail
              refine (mul_ok P Q G a b 1 _ HH.out ha0 ha HB.out.1 HB.out.2.1 HB.out.2.2).mono ?_
              rintro e w6 ⟨rfl, hb6⟩
              have hx6 : Boxed w6 (w.heap.size) P Q G := Boxed.keep (by repeat (first | exact hx5 | apply Boxed.drew | apply Boxed.alloc)) hb6
              have gc0 := hx6.c0
              have gc1 := hx6.c1
              have gc2 := hx6.c2
              have gcl := hx6.lt
              have hz := hb6.size
              try simp only [World.size_alloc, World.size_drew] at hz
              go_wp2_with fail
              refine (is_yes 1 _).mono ?_
              rintro e w0 ⟨rfl, rfl⟩
              go_wp2_with fail
              refine (mulExp_ok P Q G x y 1 _ HH.out xz0 hx HY.out.1 HY.out.2.1 HY.out.2.2).mono ?_
              rintro e w7 ⟨rfl, hb7⟩
              have hx7 : Boxed w7 (w.heap.size) P Q G := Boxed.keep (by repeat (first | exact hx6 | apply Boxed.drew | apply Boxed.alloc)) hb7
              have gc0 := hx7.c0
              have gc1 := hx7.c1
              have gc2 := hx7.c2
              have gcl := hx7.lt
              have hz := hb7.size
              try simp only [World.size_alloc, World.size_drew] at hz
              go_wp2_with fail
              refine (is_yes 1 _).mono ?_
              rintro e w0 ⟨rfl, rfl⟩
              go_wp2_with fail
              go_ret
              exact ⟨rfl, (by repeat (first | exact Below.refl _ _ | apply Below.drew | (refine Below.alloc ?_ (by first | omega | (simp <;> omega)) _) | (refine Below.trans ?_ (hb7.mono (by first | omega | (simp <;> omega)))) | (refine Below.trans ?_ (hb6.mono (by first | omega | (simp <;> omega)))) | (refine Below.trans ?_ (hb5.mono (by first | omega | (simp <;> omega)))) | (refine Below.trans ?_ (hb4.mono (by first | omega | (simp <;> omega)))) | (refine Below.trans ?_ (hb3.mono (by first | omega | (simp <;> omega)))) | (refine Below.trans ?_ (hb2.mono (by first | omega | (simp <;> omega)))) | (refine Below.trans ?_ (hb1.mono (by first | omega | (simp <;> omega))))))⟩
            case inr =>
              have HX := Lib.hid (show InvS Q x false 0 from .inr ⟨rfl, rfl, hy⟩)
              clear hy
              go_enter Try.func10, Try.ntmps10
              go_wp2_with fail
              refine (alive30 _).mono ?_
              rintro e w1 ⟨rfl, hb1⟩
              have hx1 : Boxed w1 (w.heap.size) P Q G := Boxed.keep (by repeat (first | exact hx0 | apply Boxed.drew | apply Boxed.alloc)) hb1
              have gc0 := hx1.c0
              have gc1 := hx1.c1
              have gc2 := hx1.c2
              have gcl := hx1.lt
              have hz := hb1.size
              try simp only [World.size_alloc, World.size_drew] at hz
              go_wp2_with fail
              refine (form_yes P Q G _ HH.out).mono ?_
              rintro e w2 ⟨rfl, hb2⟩
              have hx2 : Boxed w2 (w.heap.size) P Q G := Boxed.keep (by repeat (first | exact hx1 | apply Boxed.drew | apply Boxed.alloc)) hb2
              have gc0 := hx2.c0
              have gc1 := hx2.c1
              have gc2 := hx2.c2
              have gcl := hx2.lt
              have hz := hb2.size
              try simp only [World.size_alloc, World.size_drew] at hz
              go_wp2_with fail
              refine (inv_ok P Q G a b 0 true _ HH.out ha0 ha HA.out rfl).mono ?_
              rintro e w3 ⟨rfl, hb3⟩
              have hx3 : Boxed w3 (w.heap.size) P Q G := Boxed.keep (by repeat (first | exact hx2 | apply Boxed.drew | apply Boxed.alloc)) hb3
              have gc0 := hx3.c0
              have gc1 := hx3.c1
              have gc2 := hx3.c2
              have gcl := hx3.lt
              have hz := hb3.size
              try simp only [World.size_alloc, World.size_drew] at hz
              go_wp2_with fail
              refine (invExp_ok P Q G x 0 6 false _ HH.out xz0 hx HX.out rfl).mono ?_
              rintro e w4 ⟨rfl, hb4⟩
              have hx4 : Boxed w4 (w.heap.size) P Q G := Boxed.keep (by repeat (first | exact hx3 | apply Boxed.drew | apply Boxed.alloc)) hb4
              have gc0 := hx4.c0
              have gc1 := hx4.c1
              have gc2 := hx4.c2
              have gcl := hx4.lt
              have hz := hb4.size
              try simp only [World.size_alloc, World.size_drew] at hz
              go_wp2_with fail
              refine (gcheck_any P Q G 300 _ hP hQ hG HV1.out).mono ?_
              rintro e w5 ⟨rfl, hb5⟩
              have hx5 : Boxed w5 (w.heap.size) P Q G := Boxed.keep (by repeat (first | exact hx4 | apply Boxed.drew | apply Boxed.alloc)) hb5
              have gc0 := hx5.c0
              have gc1 := hx5.c1
              have gc2 := hx5.c2
              have gcl := hx5.lt
              have hz := hb5.size
              try simp only [World.size_alloc, World.size_drew] at hz
              go_wp2_with fail
              refine (mul_ok P Q G a b 1 _ HH.out ha0 ha HB.out.1 HB.out.2.1 HB.out.2.2).mono ?_
              rintro e w6 ⟨rfl, hb6⟩
              have hx6 : Boxed w6 (w.heap.size) P Q G := Boxed.keep (by repeat (first | exact hx5 | apply Boxed.drew | apply Boxed.alloc)) hb6
              have gc0 := hx6.c0
              have gc1 := hx6.c1
              have gc2 := hx6.c2
              have gcl := hx6.lt
              have hz := hb6.size
              try simp only [World.size_alloc, World.size_drew] at hz
              go_wp2_with fail
              refine (is_yes 1 _).mono ?_
              rintro e w0 ⟨rfl, rfl⟩
              go_wp2_with fail
              go_ret
              exact ⟨rfl, (by repeat (first | exact Below.refl _ _ | apply Below.drew | (refine Below.alloc ?_ (by first | omega | (simp <;> omega)) _) | (refine Below.trans ?_ (hb6.mono (by first | omega | (simp <;> omega)))) | (refine Below.trans ?_ (hb5.mono (by first | omega | (simp <;> omega)))) | (refine Below.trans ?_ (hb4.mono (by first | omega | (simp <;> omega)))) | (refine Below.trans ?_ (hb3.mono (by first | omega | (simp <;> omega)))) | (refine Below.trans ?_ (hb2.mono (by first | omega | (simp <;> omega)))) | (refine Below.trans ?_ (hb1.mono (by first | omega | (simp <;> omega))))))⟩
          case inr =>
            have HA := Lib.hid (show InvS P a false 0 from .inr ⟨rfl, rfl, hb⟩)
            clear hb
            rcases inv_or (m := Q) (a := x) (by omega) with ⟨y, hy⟩ | hy
            case inl =>
              have HX := Lib.hid (show InvS Q x true y from .inl ⟨rfl, hy⟩)
              have HY := Lib.hid (show 0 ≤ y ∧ y < Q ∧ x * y % Q = 1 from ⟨hy.1, hy.2.1, by rw [hy.2.2.emod_eq]; exact Int.emod_eq_of_lt (by omega) (by omega)⟩)
              clear hy
              go_enter Try.func10, Try.ntmps10
              go_wp2_with fail
              refine (alive30 _).mono ?_
              rintro e w1 ⟨rfl, hb1⟩
              have hx1 : Boxed w1 (w.heap.size) P Q G := Boxed.keep (by repeat (first | exact hx0 | apply Boxed.drew | apply Boxed.alloc)) hb1
              have gc0 := hx1.c0
              have gc1 := hx1.c1
              have gc2 := hx1.c2
              have gcl := hx1.lt
              have hz := hb1.size
              try simp only [World.size_alloc, World.size_drew] at hz
              go_wp2_with fail
              refine (form_yes P Q G _ HH.out).mono ?_
              rintro e w2 ⟨rfl, hb2⟩
              have hx2 : Boxed w2 (w.heap.size) P Q G := Boxed.keep (by repeat (first | exact hx1 | apply Boxed.drew | apply Boxed.alloc)) hb2
              have gc0 := hx2.c0
              have gc1 := hx2.c1
              have gc2 := hx2.c2
              have gcl := hx2.lt
              have hz := hb2.size
              try simp only [World.size_alloc, World.size_drew] at hz
              go_wp2_with fail
              refine (inv_ok P Q G a 0 6 false _ HH.out ha0 ha HA.out rfl).mono ?_
              rintro e w3 ⟨rfl, hb3⟩
              have hx3 : Boxed w3 (w.heap.size) P Q G := Boxed.keep (by repeat (first | exact hx2 | apply Boxed.drew | apply Boxed.alloc)) hb3
              have gc0 := hx3.c0
              have gc1 := hx3.c1
              have gc2 := hx3.c2
              have gcl := hx3.lt
              have hz := hb3.size
              try simp only [World.size_alloc, World.size_drew] at hz
              go_wp2_with fail
              refine (invExp_ok P Q G x y 0 true _ HH.out xz0 hx HX.out rfl).mono ?_
              rintro e w4 ⟨rfl, hb4⟩
              have hx4 : Boxed w4 (w.heap.size) P Q G := Boxed.keep (by repeat (first | exact hx3 | apply Boxed.drew | apply Boxed.alloc)) hb4
              have gc0 := hx4.c0
              have gc1 := hx4.c1
              have gc2 := hx4.c2
              have gcl := hx4.lt
              have hz := hb4.size
              try simp only [World.size_alloc, World.size_drew] at hz
              go_wp2_with fail
              refine (gcheck_any P Q G 300 _ hP hQ hG HV1.out).mono ?_
              rintro e w5 ⟨rfl, hb5⟩
              have hx5 : Boxed w5 (w.heap.size) P Q G := Boxed.keep (by repeat (first | exact hx4 | apply Boxed.drew | apply Boxed.alloc)) hb5
              have gc0 := hx5.c0
              have gc1 := hx5.c1
              have gc2 := hx5.c2
              have gcl := hx5.lt
              have hz := hb5.size
              try simp only [World.size_alloc, World.size_drew] at hz
              go_wp2_with fail
              refine (mulExp_ok P Q G x y 1 _ HH.out xz0 hx HY.out.1 HY.out.2.1 HY.out.2.2).mono ?_
              rintro e w6 ⟨rfl, hb6⟩
              have hx6 : Boxed w6 (w.heap.size) P Q G := Boxed.keep (by repeat (first | exact hx5 | apply Boxed.drew | apply Boxed.alloc)) hb6
              have gc0 := hx6.c0
              have gc1 := hx6.c1
              have gc2 := hx6.c2
              have gcl := hx6.lt
              have hz := hb6.size
              try simp only [World.size_alloc, World.size_drew] at hz
              go_wp2_with fail
              refine (is_yes 1 _).mono ?_
              rintro e w0 ⟨rfl, rfl⟩
              go_wp2_with fail
              go_ret
              exact ⟨rfl, (by repeat (first | exact Below.refl _ _ | apply Below.drew | (refine Below.alloc ?_ (by first | omega | (simp <;> omega)) _) | (refine Below.trans ?_ (hb6.mono (by first | omega | (simp <;> omega)))) | (refine Below.trans ?_ (hb5.mono (by first | omega | (simp <;> omega)))) | (refine Below.trans ?_ (hb4.mono (by first | omega | (simp <;> omega)))) | (refine Below.trans ?_ (hb3.mono (by first | omega | (simp <;> omega)))) | (refine Below.trans ?_ (hb2.mono (by first | omega | (simp <;> omega)))) | (refine Below.trans ?_ (hb1.mono (by first | omega | (simp <;> omega))))))⟩
            case inr =>
              have HX := Lib.hid (show InvS Q x false 0 from .inr ⟨rfl, rfl, hy⟩)
              clear hy
              go_enter Try.func10, Try.ntmps10
              go_wp2_with fail
              refine (alive30 _).mono ?_
              rintro e w1 ⟨rfl, hb1⟩
              have hx1 : Boxed w1 (w.heap.size) P Q G := Boxed.keep (by repeat (first | exact hx0 | apply Boxed.drew | apply Boxed.alloc)) hb1
              have gc0 := hx1.c0
              have gc1 := hx1.c1
              have gc2 := hx1.c2
              have gcl := hx1.lt
              have hz := hb1.size
              try simp only [World.size_alloc, World.size_drew] at hz
              go_wp2_with fail
              refine (form_yes P Q G _ HH.out).mono ?_
              rintro e w2 ⟨rfl, hb2⟩
              have hx2 : Boxed w2 (w.heap.size) P Q G := Boxed.keep (by repeat (first | exact hx1 | apply Boxed.drew | apply Boxed.alloc)) hb2
              have gc0 := hx2.c0
              have gc1 := hx2.c1
              have gc2 := hx2.c2
              have gcl := hx2.lt
              have hz := hb2.size
              try simp only [World.size_alloc, World.size_drew] at hz
              go_wp2_with fail
              refine (inv_ok P Q G a 0 6 false _ HH.out ha0 ha HA.out rfl).mono ?_
              rintro e w3 ⟨rfl, hb3⟩
              have hx3 : Boxed w3 (w.heap.size) P Q G := Boxed.keep (by repeat (first | exact hx2 | apply Boxed.drew | apply Boxed.alloc)) hb3
              have gc0 := hx3.c0
              have gc1 := hx3.c1
              have gc2 := hx3.c2
              have gcl := hx3.lt
              have hz := hb3.size
              try simp only [World.size_alloc, World.size_drew] at hz
              go_wp2_with fail
              refine (invExp_ok P Q G x 0 6 false _ HH.out xz0 hx HX.out rfl).mono ?_
              rintro e w4 ⟨rfl, hb4⟩
              have hx4 : Boxed w4 (w.heap.size) P Q G := Boxed.keep (by repeat (first | exact hx3 | apply Boxed.drew | apply Boxed.alloc)) hb4
              have gc0 := hx4.c0
              have gc1 := hx4.c1
              have gc2 := hx4.c2
              have gcl := hx4.lt
              have hz := hb4.size
              try simp only [World.size_alloc, World.size_drew] at hz
              go_wp2_with fail
              refine (gcheck_any P Q G 300 _ hP hQ hG HV1.out).mono ?_
              rintro e w5 ⟨rfl, hb5⟩
              have hx5 : Boxed w5 (w.heap.size) P Q G := Boxed.keep (by repeat (first | exact hx4 | apply Boxed.drew | apply Boxed.alloc)) hb5
              have gc0 := hx5.c0
              have gc1 := hx5.c1
              have gc2 := hx5.c2
              have gcl := hx5.lt
              have hz := hb5.size
              try simp only [World.size_alloc, World.size_drew] at hz
              go_wp2_with fail
              go_ret
              exact ⟨rfl, (by repeat (first | exact Below.refl _ _ | apply Below.drew | (refine Below.alloc ?_ (by first | omega | (simp <;> omega)) _) | (refine Below.trans ?_ (hb5.mono (by first | omega | (simp <;> omega)))) | (refine Below.trans ?_ (hb4.mono (by first | omega | (simp <;> omega)))) | (refine Below.trans ?_ (hb3.mono (by first | omega | (simp <;> omega)))) | (refine Below.trans ?_ (hb2.mono (by first | omega | (simp <;> omega)))) | (refine Below.trans ?_ (hb1.mono (by first | omega | (simp <;> omega))))))⟩
        case pos =>
          have HV0 := Lib.hid (show ValidS P Q G 0 from .inl ⟨hv, rfl⟩)
          have hgg := hv.grp
          clear hv
          by_cases ha1 : 0 < a
          case neg =>
            have hb : Int.gcd a P ≠ 1 := by rw [show a = 0 by omega, Int.gcd_zero_left]; omega
            have HA := Lib.hid (show InvS P a false 0 from .inr ⟨rfl, rfl, hb⟩)
            clear hb
            by_cases hx1 : 0 < x
            case neg =>
              have hy : Int.gcd x Q ≠ 1 := by rw [show x = 0 by omega, Int.gcd_zero_left]; omega
              have HX := Lib.hid (show InvS Q x false 0 from .inr ⟨rfl, rfl, hy⟩)
              clear hy
              clear hgg
              go_enter Try.func10, Try.ntmps10
              go_wp2_with fail
              refine (alive30 _).mono ?_
              rintro e w1 ⟨rfl, hb1⟩
              have hx1 : Boxed w1 (w.heap.size) P Q G := Boxed.keep (by repeat (first | exact hx0 | apply Boxed.drew | apply Boxed.alloc)) hb1
              have gc0 := hx1.c0
              have gc1 := hx1.c1
              have gc2 := hx1.c2
              have gcl := hx1.lt
              have hz := hb1.size
              try simp only [World.size_alloc, World.size_drew] at hz
              go_wp2_with fail
              refine (form_yes P Q G _ HH.out).mono ?_
              rintro e w2 ⟨rfl, hb2⟩
              have hx2 : Boxed w2 (w.heap.size) P Q G := Boxed.keep (by repeat (first | exact hx1 | apply Boxed.drew | apply Boxed.alloc)) hb2
              have gc0 := hx2.c0
              have gc1 := hx2.c1
              have gc2 := hx2.c2
              have gcl := hx2.lt
              have hz := hb2.size
              try simp only [World.size_alloc, World.size_drew] at hz
              go_wp2_with fail
              refine (inv_ok P Q G a 0 6 false _ HH.out ha0 ha HA.out rfl).mono ?_
              rintro e w3 ⟨rfl, hb3⟩
              have hx3 : Boxed w3 (w.heap.size) P Q G := Boxed.keep (by repeat (first | exact hx2 | apply Boxed.drew | apply Boxed.alloc)) hb3
              have gc0 := hx3.c0
              have gc1 := hx3.c1
              have gc2 := hx3.c2
              have gcl := hx3.lt
              have hz := hb3.size
              try simp only [World.size_alloc, World.size_drew] at hz
              go_wp2_with fail
              refine (invExp_ok P Q G x 0 6 false _ HH.out xz0 hx HX.out rfl).mono ?_
              rintro e w4 ⟨rfl, hb4⟩
              have hx4 : Boxed w4 (w.heap.size) P Q G := Boxed.keep (by repeat (first | exact hx3 | apply Boxed.drew | apply Boxed.alloc)) hb4
              have gc0 := hx4.c0
              have gc1 := hx4.c1
              have gc2 := hx4.c2
              have gcl := hx4.lt
              have hz := hb4.size
              try simp only [World.size_alloc, World.size_drew] at hz
              go_wp2_with fail
              refine (gcheck_any P Q G 0 _ hP hQ hG HV0.out).mono ?_
              rintro e w5 ⟨rfl, hb5⟩
              have hx5 : Boxed w5 (w.heap.size) P Q G := Boxed.keep (by repeat (first | exact hx4 | apply Boxed.drew | apply Boxed.alloc)) hb5
              have gc0 := hx5.c0
              have gc1 := hx5.c1
              have gc2 := hx5.c2
              have gcl := hx5.lt
              have hz := hb5.size
              try simp only [World.size_alloc, World.size_drew] at hz
              go_wp2_with fail
              go_ret
              exact ⟨rfl, (by repeat (first | exact Below.refl _ _ | apply Below.drew | (refine Below.alloc ?_ (by first | omega | (simp <;> omega)) _) | (refine Below.trans ?_ (hb5.mono (by first | omega | (simp <;> omega)))) | (refine Below.trans ?_ (hb4.mono (by first | omega | (simp <;> omega)))) | (refine Below.trans ?_ (hb3.mono (by first | omega | (simp <;> omega)))) | (refine Below.trans ?_ (hb2.mono (by first | omega | (simp <;> omega)))) | (refine Below.trans ?_ (hb1.mono (by first | omega | (simp <;> omega))))))⟩
            case pos =>
              obtain ⟨y, hy⟩ := hgg.pQ.inv (hgg.pQ.not_dvd hx1 hx)
              have HX := Lib.hid (show InvS Q x true y from .inl ⟨rfl, hy⟩)
              have HY := Lib.hid (show 0 ≤ y ∧ y < Q ∧ x * y % Q = 1 from ⟨hy.1, hy.2.1, by rw [hy.2.2.emod_eq]; exact Int.emod_eq_of_lt (by omega) (by omega)⟩)
              clear hy
              clear hgg
              go_enter Try.func10, Try.ntmps10
              go_wp2_with fail
              refine (alive30 _).mono ?_
              rintro e w1 ⟨rfl, hb1⟩
              have hx1 : Boxed w1 (w.heap.size) P Q G := Boxed.keep (by repeat (first | exact hx0 | apply Boxed.drew | apply Boxed.alloc)) hb1
              have gc0 := hx1.c0
              have gc1 := hx1.c1
              have gc2 := hx1.c2
              have gcl := hx1.lt
              have hz := hb1.size
              try simp only [World.size_alloc, World.size_drew] at hz
              go_wp2_with fail
              refine (form_yes P Q G _ HH.out).mono ?_
              rintro e w2 ⟨rfl, hb2⟩
              have hx2 : Boxed w2 (w.heap.size) P Q G := Boxed.keep (by repeat (first | exact hx1 | apply Boxed.drew | apply Boxed.alloc)) hb2
              have gc0 := hx2.c0
              have gc1 := hx2.c1
              have gc2 := hx2.c2
              have gcl := hx2.lt
              have hz := hb2.size
              try simp only [World.size_alloc, World.size_drew] at hz
              go_wp2_with fail
              refine (inv_ok P Q G a 0 6 false _ HH.out ha0 ha HA.out rfl).mono ?_
              rintro e w3 ⟨rfl, hb3⟩
              have hx3 : Boxed w3 (w.heap.size) P Q G := Boxed.keep (by repeat (first | exact hx2 | apply Boxed.drew | apply Boxed.alloc)) hb3
              have gc0 := hx3.c0
              have gc1 := hx3.c1
              have gc2 := hx3.c2
              have gcl := hx3.lt
              have hz := hb3.size
              try simp only [World.size_alloc, World.size_drew] at hz
              go_wp2_with fail
              refine (invExp_ok P Q G x y 0 true _ HH.out xz0 hx HX.out rfl).mono ?_
              rintro e w4 ⟨rfl, hb4⟩
              have hx4 : Boxed w4 (w.heap.size) P Q G := Boxed.keep (by repeat (first | exact hx3 | apply Boxed.drew | apply Boxed.alloc)) hb4
              have gc0 := hx4.c0
              have gc1 := hx4.c1
              have gc2 := hx4.c2
              have gcl := hx4.lt
              have hz := hb4.size
              try simp only [World.size_alloc, World.size_drew] at hz
              go_wp2_with fail
              refine (gcheck_any P Q G 0 _ hP hQ hG HV0.out).mono ?_
              rintro e w5 ⟨rfl, hb5⟩
              have hx5 : Boxed w5 (w.heap.size) P Q G := Boxed.keep (by repeat (first | exact hx4 | apply Boxed.drew | apply Boxed.alloc)) hb5
              have gc0 := hx5.c0
              have gc1 := hx5.c1
              have gc2 := hx5.c2
              have gcl := hx5.lt
              have hz := hb5.size
              try simp only [World.size_alloc, World.size_drew] at hz
              go_wp2_with fail
              refine (mulExp_ok P Q G x y 1 _ HH.out xz0 hx HY.out.1 HY.out.2.1 HY.out.2.2).mono ?_
              rintro e w6 ⟨rfl, hb6⟩
              have hx6 : Boxed w6 (w.heap.size) P Q G := Boxed.keep (by repeat (first | exact hx5 | apply Boxed.drew | apply Boxed.alloc)) hb6
              have gc0 := hx6.c0
              have gc1 := hx6.c1
              have gc2 := hx6.c2
              have gcl := hx6.lt
              have hz := hb6.size
              try simp only [World.size_alloc, World.size_drew] at hz
              go_wp2_with fail
              refine (is_yes 1 _).mono ?_
              rintro e w0 ⟨rfl, rfl⟩
              go_wp2_with fail
              go_ret
              exact ⟨rfl, (by repeat (first | exact Below.refl _ _ | apply Below.drew | (refine Below.alloc ?_ (by first | omega | (simp <;> omega)) _) | (refine Below.trans ?_ (hb6.mono (by first | omega | (simp <;> omega)))) | (refine Below.trans ?_ (hb5.mono (by first | omega | (simp <;> omega)))) | (refine Below.trans ?_ (hb4.mono (by first | omega | (simp <;> omega)))) | (refine Below.trans ?_ (hb3.mono (by first | omega | (simp <;> omega)))) | (refine Below.trans ?_ (hb2.mono (by first | omega | (simp <;> omega)))) | (refine Below.trans ?_ (hb1.mono (by first | omega | (simp <;> omega))))))⟩
          case pos =>
            obtain ⟨b, hb⟩ := hgg.pP.inv (hgg.pP.not_dvd ha1 ha)
            have HA := Lib.hid (show InvS P a true b from .inl ⟨rfl, hb⟩)
            have HB := Lib.hid (show 0 ≤ b ∧ b < P ∧ a * b % P = 1 from ⟨hb.1, hb.2.1, by rw [hb.2.2.emod_eq]; exact Int.emod_eq_of_lt (by omega) (by omega)⟩)
            clear hb
            by_cases hx1 : 0 < x
            case neg =>
              have hy : Int.gcd x Q ≠ 1 := by rw [show x = 0 by omega, Int.gcd_zero_left]; omega
              have HX := Lib.hid (show InvS Q x false 0 from .inr ⟨rfl, rfl, hy⟩)
              clear hy
              clear hgg
              go_enter Try.func10, Try.ntmps10
              go_wp2_with fail
              refine (alive30 _).mono ?_
              rintro e w1 ⟨rfl, hb1⟩
              have hx1 : Boxed w1 (w.heap.size) P Q G := Boxed.keep (by repeat (first | exact hx0 | apply Boxed.drew | apply Boxed.alloc)) hb1
              have gc0 := hx1.c0
              have gc1 := hx1.c1
              have gc2 := hx1.c2
              have gcl := hx1.lt
              have hz := hb1.size
              try simp only [World.size_alloc, World.size_drew] at hz
              go_wp2_with fail
              refine (form_yes P Q G _ HH.out).mono ?_
              rintro e w2 ⟨rfl, hb2⟩
              have hx2 : Boxed w2 (w.heap.size) P Q G := Boxed.keep (by repeat (first | exact hx1 | apply Boxed.drew | apply Boxed.alloc)) hb2
              have gc0 := hx2.c0
              have gc1 := hx2.c1
              have gc2 := hx2.c2
              have gcl := hx2.lt
              have hz := hb2.size
              try simp only [World.size_alloc, World.size_drew] at hz
              go_wp2_with fail
              refine (inv_ok P Q G a b 0 true _ HH.out ha0 ha HA.out rfl).mono ?_
              rintro e w3 ⟨rfl, hb3⟩
              have hx3 : Boxed w3 (w.heap.size) P Q G := Boxed.keep (by repeat (first | exact hx2 | apply Boxed.drew | apply Boxed.alloc)) hb3
              have gc0 := hx3.c0
              have gc1 := hx3.c1
              have gc2 := hx3.c2
              have gcl := hx3.lt
              have hz := hb3.size
              try simp only [World.size_alloc, World.size_drew] at hz
              go_wp2_with fail
              refine (invExp_ok P Q G x 0 6 false _ HH.out xz0 hx HX.out rfl).mono ?_
              rintro e w4 ⟨rfl, hb4⟩
              have hx4 : Boxed w4 (w.heap.size) P Q G := Boxed.keep (by repeat (first | exact hx3 | apply Boxed.drew | apply Boxed.alloc)) hb4
              have gc0 := hx4.c0
              have gc1 := hx4.c1
              have gc2 := hx4.c2
              have gcl := hx4.lt
              have hz := hb4.size
              try simp only [World.size_alloc, World.size_drew] at hz
              go_wp2_with fail
              refine (gcheck_any P Q G 0 _ hP hQ hG HV0.out).mono ?_
              rintro e w5 ⟨rfl, hb5⟩
              have hx5 : Boxed w5 (w.heap.size) P Q G := Boxed.keep (by repeat (first | exact hx4 | apply Boxed.drew | apply Boxed.alloc)) hb5
              have gc0 := hx5.c0
              have gc1 := hx5.c1
              have gc2 := hx5.c2
              have gcl := hx5.lt
              have hz := hb5.size
              try simp only [World.size_alloc, World.size_drew] at hz
              go_wp2_with fail
              refine (mul_ok P Q G a b 1 _ HH.out ha0 ha HB.out.1 HB.out.2.1 HB.out.2.2).mono ?_
              rintro e w6 ⟨rfl, hb6⟩
              have hx6 : Boxed w6 (w.heap.size) P Q G := Boxed.keep (by repeat (first | exact hx5 | apply Boxed.drew | apply Boxed.alloc)) hb6
              have gc0 := hx6.c0
              have gc1 := hx6.c1
              have gc2 := hx6.c2
              have gcl := hx6.lt
              have hz := hb6.size
              try simp only [World.size_alloc, World.size_drew] at hz
              go_wp2_with fail
              refine (is_yes 1 _).mono ?_
              rintro e w0 ⟨rfl, rfl⟩
              go_wp2_with fail
              go_ret
              exact ⟨rfl, (by repeat (first | exact Below.refl _ _ | apply Below.drew | (refine Below.alloc ?_ (by first | omega | (simp <;> omega)) _) | (refine Below.trans ?_ (hb6.mono (by first | omega | (simp <;> omega)))) | (refine Below.trans ?_ (hb5.mono (by first | omega | (simp <;> omega)))) | (refine Below.trans ?_ (hb4.mono (by first | omega | (simp <;> omega)))) | (refine Below.trans ?_ (hb3.mono (by first | omega | (simp <;> omega)))) | (refine Below.trans ?_ (hb2.mono (by first | omega | (simp <;> omega)))) | (refine Below.trans ?_ (hb1.mono (by first | omega | (simp <;> omega))))))⟩
            case pos =>
              obtain ⟨y, hy⟩ := hgg.pQ.inv (hgg.pQ.not_dvd hx1 hx)
              have HX := Lib.hid (show InvS Q x true y from .inl ⟨rfl, hy⟩)
              have HY := Lib.hid (show 0 ≤ y ∧ y < Q ∧ x * y % Q = 1 from ⟨hy.1, hy.2.1, by rw [hy.2.2.emod_eq]; exact Int.emod_eq_of_lt (by omega) (by omega)⟩)
              clear hy
              clear hgg
              go_enter Try.func10, Try.ntmps10
              go_wp2_with fail
              refine (alive30 _).mono ?_
              rintro e w1 ⟨rfl, hb1⟩
              have hx1 : Boxed w1 (w.heap.size) P Q G := Boxed.keep (by repeat (first | exact hx0 | apply Boxed.drew | apply Boxed.alloc)) hb1
              have gc0 := hx1.c0
              have gc1 := hx1.c1
              have gc2 := hx1.c2
              have gcl := hx1.lt
              have hz := hb1.size
              try simp only [World.size_alloc, World.size_drew] at hz
              go_wp2_with fail
              refine (form_yes P Q G _ HH.out).mono ?_
              rintro e w2 ⟨rfl, hb2⟩
              have hx2 : Boxed w2 (w.heap.size) P Q G := Boxed.keep (by repeat (first | exact hx1 | apply Boxed.drew | apply Boxed.alloc)) hb2
              have gc0 := hx2.c0
              have gc1 := hx2.c1
              have gc2 := hx2.c2
              have gcl := hx2.lt
              have hz := hb2.size
              try simp only [World.size_alloc, World.size_drew] at hz
              go_wp2_with fail
              refine (inv_ok P Q G a b 0 true _ HH.out ha0 ha HA.out rfl).mono ?_
              rintro e w3 ⟨rfl, hb3⟩
              have hx3 : Boxed w3 (w.heap.size) P Q G := Boxed.keep (by repeat (first | exact hx2 | apply Boxed.drew | apply Boxed.alloc)) hb3
              have gc0 := hx3.c0
              have gc1 := hx3.c1
              have gc2 := hx3.c2
              have gcl := hx3.lt
              have hz := hb3.size
              try simp only [World.size_alloc, World.size_drew] at hz
              go_wp2_with fail
              refine (invExp_ok P Q G x y 0 true _ HH.out xz0 hx HX.out rfl).mono ?_
              rintro e w4 ⟨rfl, hb4⟩
              have hx4 : Boxed w4 (w.heap.size) P Q G := Boxed.keep (by repeat (first | exact hx3 | apply Boxed.drew | apply Boxed.alloc)) hb4
              have gc0 := hx4.c0
              have gc1 := hx4.c1
              have gc2 := hx4.c2
              have gcl := hx4.lt
              have hz := hb4.size
              try simp only [World.size_alloc, World.size_drew] at hz
              go_wp2_with fail
              refine (gcheck_any P Q G 0 _ hP hQ hG HV0.out).mono ?_
              rintro e w5 ⟨rfl, hb5⟩
              have hx5 : Boxed w5 (w.heap.size) P Q G := Boxed.keep (by repeat (first | exact hx4 | apply Boxed.drew | apply Boxed.alloc)) hb5
              have gc0 := hx5.c0
              have gc1 := hx5.c1
              have gc2 := hx5.c2
              have gcl := hx5.lt
              have hz := hb5.size
              try simp only [World.size_alloc, World.size_drew] at hz
              go_wp2_with fail
              refine (mul_ok P Q G a b 1 _ HH.out ha0 ha HB.out.1 HB.out.2.1 HB.out.2.2).mono ?_
              rintro e w6 ⟨rfl, hb6⟩
              have hx6 : Boxed w6 (w.heap.size) P Q G := Boxed.keep (by repeat (first | exact hx5 | apply Boxed.drew | apply Boxed.alloc)) hb6
              have gc0 := hx6.c0
              have gc1 := hx6.c1
              have gc2 := hx6.c2
              have gcl := hx6.lt
              have hz := hb6.size
              try simp only [World.size_alloc, World.size_drew] at hz
              go_wp2_with fail
              refine (is_yes 1 _).mono ?_
              rintro e w0 ⟨rfl, rfl⟩
              go_wp2_with fail
              refine (mulExp_ok P Q G x y 1 _ HH.out xz0 hx HY.out.1 HY.out.2.1 HY.out.2.2).mono ?_
              rintro e w7 ⟨rfl, hb7⟩
              have hx7 : Boxed w7 (w.heap.size) P Q G := Boxed.keep (by repeat (first | exact hx6 | apply Boxed.drew | apply Boxed.alloc)) hb7
              have gc0 := hx7.c0
              have gc1 := hx7.c1
              have gc2 := hx7.c2
              have gcl := hx7.lt
              have hz := hb7.size
              try simp only [World.size_alloc, World.size_drew] at hz
              go_wp2_with fail
              refine (is_yes 1 _).mono ?_
              rintro e w0 ⟨rfl, rfl⟩
              go_wp2_with fail
              go_ret
              exact ⟨rfl, (by repeat (first | exact Below.refl _ _ | apply Below.drew | (refine Below.alloc ?_ (by first | omega | (simp <;> omega)) _) | (refine Below.trans ?_ (hb7.mono (by first | omega | (simp <;> omega)))) | (refine Below.trans ?_ (hb6.mono (by first | omega | (simp <;> omega)))) | (refine Below.trans ?_ (hb5.mono (by first | omega | (simp <;> omega)))) | (refine Below.trans ?_ (hb4.mono (by first | omega | (simp <;> omega)))) | (refine Below.trans ?_ (hb3.mono (by first | omega | (simp <;> omega)))) | (refine Below.trans ?_ (hb2.mono (by first | omega | (simp <;> omega)))) | (refine Below.trans ?_ (hb1.mono (by first | omega | (simp <;> omega))))))⟩


set_option maxRecDepth 100000 in
theorem lifted (os : Os) (started : os.Started) (H : Type) (enc : TypeId × Value → H) :
    ReturnsInHanded {} Try.checked os 10 .any (Rows.groupInversesSpec.pre6 enc Try.prog Try.f10 Rows.groupInversesRow.domain false) (Rows.groupInversesSpec.post enc Try.prog Try.f10 false true false false) := by
  refine returnsInHanded_of_change (C := Try.checked) own started (by kernel_rfl) Try.func10
    (ChangeSpec.witness6 (enc := enc) (C := Try.checked) false ⟨#[], #[.agg #[.int .u64 0, .int .u64 0, .int .u64 0], .int .u64 0, .int .u64 0], []⟩ 8 (by kernel_rfl) (by kernel_rfl) (by kernel_rfl) (by kernel_rfl)) ?_
  intro W base args ds gs before hval0 hW _ _
  have hval : ∀ (j : Nat) t v, Try.f10.params[j]? = some t → args[j]? = some v → Value.okWide Try.prog W .any base t v := hval0
  have hW' := hW
  obtain ⟨p, q, hA0, hV, rfl, hfz, hnd⟩ := hW
  have hA : DataW.TrodAll enc Try.prog W 0 (fun _ => true) true Try.f10.params.toList args.toList ds p := hA0
  rw [Try.params10] at hA hval
  have hK := hA
  obtain ⟨v0, vs0, d0, ds0, p0, q0, hargs, rfl, rfl, h0, r0⟩ := trodAll_cons hA
  obtain ⟨v1, vs1, d1, ds1, p1, q1, rfl, rfl, rfl, h1, r1⟩ := trodAll_cons r0
  obtain ⟨v2, vs2, d2, ds2, p2, q2, rfl, rfl, rfl, h2, r2⟩ := trodAll_cons r1
  obtain ⟨rfl, rfl, rfl⟩ := trodAll_nil r2
  obtain rfl : args = #[v0, v1, v2] := by cases args; simp_all
  obtain ⟨rfl, rfl⟩ := trodVars_none hV
  obtain ⟨P, Q, G, rfl, uP, uQ, uG⟩ := open_group (hval 0 24 v0 rfl rfl) h0
  obtain ⟨a, rfl, ua⟩ := open_u64 (hval 1 22 v1 rfl rfl) h1
  obtain ⟨x, rfl, ux⟩ := open_u64 (hval 2 22 v2 rfl rfl) h2
  clear hA0 hval0
  refine (walk P Q G a x W uP uQ uG ua ux).mono fun e W' ⟨he, bel⟩ => ?_
  subst he
  exact ⟨_, rfl, _, _, _, [], _, [], hW', trodAll_mk1 (shut_bool Try.underlying4 _), trodAll_stays laidOut (by kernel_rfl) hK bel, rfl, bel.frame _, fun h => by cases h⟩

theorem over : Rows.groupInversesRow.holds Try.pinned (OpenSpec.ofChange Rows.groupInversesSpec) :=
  OpenClaim.holds_of_wide 10 Try.f10 rfl rfl rfl rfl rfl rfl rfl ⟨rfl, rfl, rfl, rfl, rfl⟩ rfl rfl rfl rfl rfl (by kernel_rfl) Try.func10 (by kernel_rfl)
    (of_decide_eq_true (by kernel_rfl)) (by unfold Func.isWrapper; first | (rw [if_pos (by decide +kernel)]; kernel_rfl) | (rw [if_neg (by decide +kernel)]; exact ⟨rfl, rfl⟩))
    (fun os started H enc _ => lifted os started H enc)

theorem proved : Rows.GroupInversesSaid := over
#print axioms proved
end Go.Proofs.Ytjdfjgphjdcnmaa.lawInverses
