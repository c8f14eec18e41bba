/- group.Check, group.Default, group.FromDigest. -/
import Derived.Test.YtjfaaicbojnpaaaMemLog
namespace Go.Proofs.Ytjfaaicbojnpaaa
open Go.RowKit Num

/-- A valid group. -/
def Valid (P Q G : Int) : Prop := Has P Q G ∧ Pr P ∧ Pr Q ∧ powm G Q P = 1
theorem Valid.has {P Q G : Int} (h : Valid P Q G) : Has P Q G := h.1
theorem Valid.grp {P Q G : Int} (h : Valid P Q G) : Grp P Q G := ⟨h.1.2.2.2.1, h.2.1, h.2.2.1, h.1.2.2.2.2.1, h.1.2.2.2.2.2, h.2.2.2⟩

/-- What Check gives. -/
def ValidS (P Q G c : Int) : Prop := (Valid P Q G ∧ c = 0) ∨ (¬ Valid P Q G ∧ c = 300)
theorem ValidS.exists (P Q G : Int) : ∃ c, ValidS P Q G c := by
  by_cases h : Valid P Q G
  · exact ⟨0, .inl ⟨h, rfl⟩⟩
  · exact ⟨300, .inr ⟨h, rfl⟩⟩
theorem ValidS.eq {P Q G c d : Int} (h : ValidS P Q G c) (h' : ValidS P Q G d) : c = d := by
  rcases h with ⟨h1, h2⟩ | ⟨h1, h2⟩ <;> rcases h' with ⟨k1, k2⟩ | ⟨k1, k2⟩
  · omega
  · exact absurd h1 k1
  · exact absurd k1 h1
  · omega
theorem ValidS.yes {P Q G c : Int} (h : ValidS P Q G c) (hv : Valid P Q G) : c = 0 := h.eq (.inl ⟨hv, rfl⟩)
theorem ValidS.no {P Q G c : Int} (h : ValidS P Q G c) (hv : ¬ Valid P Q G) : c = 300 := h.eq (.inr ⟨hv, rfl⟩)

set_option maxHeartbeats 1000000 in
theorem gcheck_any (P Q G c : Int) (w : World) (hP : 0 ≤ P) (hQ : 0 ≤ Q) (hG : 0 ≤ G) (hr : ValidS P Q G c) :
    Calls Try.prog 43 #[.agg #[.int .u64 P, .int .u64 Q, .int .u64 G]] w fun e w' => e = .returned (.int .i64 c) ∧ Below w.heap.size w w' := by
  have HR := Lib.hid hr
  clear hr
  by_cases hH : Has P Q G
  case neg =>
    have HC := Lib.hid (HR.out.no fun h => hH h.1)
    have HH := Lib.hid hH
    clear hH
    go_enter Try.func43, Try.ntmps43
    go_wp2_with fail
    refine (form_no P Q G _ hP hQ hG HH.out).mono ?_
    rintro e w1 ⟨rfl, hb1⟩
    go_wp2
    go_ret
    exact ⟨ret_int HC.out.symm, ((Below.refl _ _).alloc (Nat.le_refl _) _).trans (hb1.mono (by simp))⟩
  case pos =>
    obtain ⟨p5, p3, _, pq, g2, gP⟩ := id hH
    have q3 : Q < 1073741824 := by omega
    have HX := Lib.hid (U64.of_lt hQ (by omega))
    have HH := Lib.hid hH
    clear hH pq
    by_cases h1 : Pr P
    case neg =>
      have HC := Lib.hid (HR.out.no fun h => h1 h.2.1)
      have H1 := Lib.hid h1
      clear h1
      go_enter Try.func43, Try.ntmps43
      go_wp2_with fail
      refine (form_yes P Q G _ HH.out).mono ?_
      rintro e w1 ⟨rfl, hb1⟩
      obtain ⟨hc, hf⟩ := bcell hb1
      have hz := hb1.size
      go_wp2_with fail
      refine (prime_any P false _ hP p3 (by simp [H1.out])).mono ?_
      rintro e w2 ⟨rfl, rfl⟩
      go_wp2
      go_ret
      exact ⟨ret_int HC.out.symm, ((Below.refl _ _).alloc (Nat.le_refl _) _).trans (hb1.mono (by simp))⟩
    case pos =>
      have H1 := Lib.hid h1
      clear h1
      by_cases h2 : Pr Q
      case neg =>
        have HC := Lib.hid (HR.out.no fun h => h2 h.2.2.1)
        have H2 := Lib.hid h2
        clear h2
        go_enter Try.func43, Try.ntmps43
        go_wp2_with fail
        refine (form_yes P Q G _ HH.out).mono ?_
        rintro e w1 ⟨rfl, hb1⟩
        obtain ⟨hc, hf⟩ := bcell hb1
        have hz := hb1.size
        go_wp2_with fail
        refine (prime_any P true _ hP p3 (by simp [H1.out])).mono ?_
        rintro e w2 ⟨rfl, rfl⟩
        go_wp2_with fail
        refine (prime_any Q false _ hQ (by omega) (by simp [H2.out])).mono ?_
        rintro e w2 ⟨rfl, rfl⟩
        go_wp2
        go_ret
        exact ⟨ret_int HC.out.symm, ((Below.refl _ _).alloc (Nat.le_refl _) _).trans (hb1.mono (by simp))⟩
      case pos =>
        have H2 := Lib.hid h2
        clear h2
        by_cases h3 : powm G Q P = 1
        case neg =>
          have HC := Lib.hid (HR.out.no fun h => h3 h.2.2.2)
          have hb : (powm G Q P != 1) = true := by simpa using h3
          clear h3
          go_enter Try.func43, Try.ntmps43
          go_wp2_with fail
          refine (form_yes P Q G _ HH.out).mono ?_
          rintro e w1 ⟨rfl, hb1⟩
          obtain ⟨hc, hf⟩ := bcell hb1
          have hz := hb1.size
          go_wp2_with fail
          refine (prime_any P true _ hP p3 (by simp [H1.out])).mono ?_
          rintro e w2 ⟨rfl, rfl⟩
          go_wp2_with fail
          refine (prime_any Q true _ hQ (by omega) (by simp [H2.out])).mono ?_
          rintro e w2 ⟨rfl, rfl⟩
          go_wp2_with fail
          refine (power_any G Q P _ _ hG HX.out (by omega) p3 rfl).mono ?_
          rintro e w2 ⟨rfl, rfl⟩
          go_wp2
          go_ret
          exact ⟨ret_int HC.out.symm, ((Below.refl _ _).alloc (Nat.le_refl _) _).trans (hb1.mono (by simp))⟩
        case pos =>
          have HC := Lib.hid (HR.out.yes ⟨HH.out, H1.out, H2.out, h3⟩)
          have H3 := Lib.hid h3
          clear h3
          go_enter Try.func43, Try.ntmps43
          go_wp2_with fail
          refine (form_yes P Q G _ HH.out).mono ?_
          rintro e w1 ⟨rfl, hb1⟩
          obtain ⟨hc, hf⟩ := bcell hb1
          have hz := hb1.size
          go_wp2_with fail
          refine (prime_any P true _ hP p3 (by simp [H1.out])).mono ?_
          rintro e w2 ⟨rfl, rfl⟩
          go_wp2_with fail
          refine (prime_any Q true _ hQ (by omega) (by simp [H2.out])).mono ?_
          rintro e w2 ⟨rfl, rfl⟩
          go_wp2_with fail
          refine (power_any G Q P 1 _ hG HX.out (by omega) p3 H3.out).mono ?_
          rintro e w2 ⟨rfl, rfl⟩
          go_wp2
          go_ret
          exact ⟨ret_int HC.out.symm, ((Below.refl _ _).alloc (Nat.le_refl _) _).trans (hb1.mono (by simp))⟩

end Go.Proofs.Ytjfaaicbojnpaaa
