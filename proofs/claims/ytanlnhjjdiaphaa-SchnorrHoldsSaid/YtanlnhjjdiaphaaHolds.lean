/- SchnorrHolds: the statement: for every input the law returns true, and the arguments read as before. -/
import Derived.Test.YtanlnhjjdiaphaaAux31
import Derived.Test.YtanlnhjjdiaphaaLaw31
import Derived.Test.YtanlnhjjdiaphaaOpen
import Derived.Test.YtanlnhjjdiaphaaRows
namespace Go.Proofs.Ytanlnhjjdiaphaa.lawHolds
open Go.ChangeShapes Go.WideShapes Go.ChangeAt Go.RowKit Num
set_option linter.unusedSimpArgs false
set_option linter.unusedVariables false

set_option maxRecDepth 100000 in
set_option maxHeartbeats 12800000 in
theorem walk (P Q G x k c : Int) (w : World) (uP : U64 P) (uQ : U64 Q) (uG : U64 G) (ux : U64 x) (uk : U64 k) (uc : U64 c) :
    Calls Try.prog 4 #[.agg #[.int .u64 P, .int .u64 Q, .int .u64 G], .int .u64 x, .int .u64 k, .int .u64 c] w fun e w' => e = .returned (.bool true) ∧ Below w.heap.size w w' := by
  have hP := uP.1
  have hQ := uQ.1
  have hG := uG.1
  have hx := ux.1
  have hk := uk.1
  have hc := uc.1
  by_cases hv : Valid P Q G
  case neg =>
    have HV := Lib.hid (show ValidS P Q G 300 from .inr ⟨hv, rfl⟩)
    clear hv
    have F_g := Lib.hid (show Boxed (w.alloc (.cells #[.int .u64 P, .int .u64 Q, .int .u64 G] 24)) (w.heap.size) P Q G from Boxed.at _ P Q G _ (w.heap.size) (by simp))
    have HBW := Lib.hid (show Below w.heap.size w (w.alloc (.cells #[.int .u64 P, .int .u64 Q, .int .u64 G] 24)) from (Below.refl _ _).alloc (by simp <;> omega) _)
    go_enter Try.func4, Try.ntmps4
    obtain ⟨x0a, x0b, x0c, -⟩ := id F_g.out
    go_wp2_with fail
    clear x0a x0b x0c
    refine (alive_yes _).mono ?_
    rintro e w1 ⟨rfl, hb1⟩
    replace F_g := Lib.hid (F_g.out.keep hb1)
    replace HBW := Lib.hid (HBW.out.trans (hb1.mono HBW.out.size))
    clear hb1
    obtain ⟨x0a, x0b, x0c, -⟩ := id F_g.out
    go_wp2_with fail
    clear x0a x0b x0c
    refine (gcheck_any P Q G 300 _ hP hQ hG HV.out).mono ?_
    rintro e w2 ⟨rfl, hb2⟩
    replace F_g := Lib.hid (F_g.out.keep hb2)
    replace HBW := Lib.hid (HBW.out.trans (hb2.mono HBW.out.size))
    clear hb2
    obtain ⟨x0a, x0b, x0c, -⟩ := id F_g.out
    go_wp2_with fail
    go_ret
    exact ⟨rfl, HBW.out⟩
  case pos =>
    have HV := Lib.hid (show ValidS P Q G 0 from .inl ⟨hv, rfl⟩)
    have HG := Lib.hid hv.grp
    have HH := Lib.hid hv.has
    obtain ⟨p5, p3, _, pq, g2, gP⟩ := id hv.1
    have q3 : Q < 1073741824 := by omega
    clear hv pq
    by_cases hxQ : x < Q
    case neg =>
      have hxQ_ : Q ≤ x := by omega
      clear hxQ
      have F_g := Lib.hid (show Boxed (w.alloc (.cells #[.int .u64 P, .int .u64 Q, .int .u64 G] 24)) (w.heap.size) P Q G from Boxed.at _ P Q G _ (w.heap.size) (by simp))
      have HBW := Lib.hid (show Below w.heap.size w (w.alloc (.cells #[.int .u64 P, .int .u64 Q, .int .u64 G] 24)) from (Below.refl _ _).alloc (by simp <;> omega) _)
      go_enter Try.func4, Try.ntmps4
      obtain ⟨x0a, x0b, x0c, -⟩ := id F_g.out
      go_wp2_with fail
      clear x0a x0b x0c
      refine (alive_yes _).mono ?_
      rintro e w1 ⟨rfl, hb1⟩
      replace F_g := Lib.hid (F_g.out.keep hb1)
      replace HBW := Lib.hid (HBW.out.trans (hb1.mono HBW.out.size))
      clear hb1
      obtain ⟨x0a, x0b, x0c, -⟩ := id F_g.out
      go_wp2_with fail
      clear x0a x0b x0c
      refine (gcheck_any P Q G 0 _ hP hQ hG HV.out).mono ?_
      rintro e w2 ⟨rfl, hb2⟩
      replace F_g := Lib.hid (F_g.out.keep hb2)
      replace HBW := Lib.hid (HBW.out.trans (hb2.mono HBW.out.size))
      clear hb2
      obtain ⟨x0a, x0b, x0c, -⟩ := id F_g.out
      go_wp2_with fail
      go_ret
      exact ⟨rfl, HBW.out⟩
    case pos =>
      have xQ := hxQ
      clear hxQ
      by_cases hkQ : k < Q
      case neg =>
        have hkQ_ : Q ≤ k := by omega
        clear hkQ
        have F_g := Lib.hid (show Boxed (w.alloc (.cells #[.int .u64 P, .int .u64 Q, .int .u64 G] 24)) (w.heap.size) P Q G from Boxed.at _ P Q G _ (w.heap.size) (by simp))
        have HBW := Lib.hid (show Below w.heap.size w (w.alloc (.cells #[.int .u64 P, .int .u64 Q, .int .u64 G] 24)) from (Below.refl _ _).alloc (by simp <;> omega) _)
        go_enter Try.func4, Try.ntmps4
        obtain ⟨x0a, x0b, x0c, -⟩ := id F_g.out
        go_wp2_with fail
        clear x0a x0b x0c
        refine (alive_yes _).mono ?_
        rintro e w1 ⟨rfl, hb1⟩
        replace F_g := Lib.hid (F_g.out.keep hb1)
        replace HBW := Lib.hid (HBW.out.trans (hb1.mono HBW.out.size))
        clear hb1
        obtain ⟨x0a, x0b, x0c, -⟩ := id F_g.out
        go_wp2_with fail
        clear x0a x0b x0c
        refine (gcheck_any P Q G 0 _ hP hQ hG HV.out).mono ?_
        rintro e w2 ⟨rfl, hb2⟩
        replace F_g := Lib.hid (F_g.out.keep hb2)
        replace HBW := Lib.hid (HBW.out.trans (hb2.mono HBW.out.size))
        clear hb2
        obtain ⟨x0a, x0b, x0c, -⟩ := id F_g.out
        go_wp2_with fail
        go_ret
        exact ⟨rfl, HBW.out⟩
      case pos =>
        have kQ := hkQ
        clear hkQ
        by_cases hcQ : c < Q
        case neg =>
          have hcQ_ : Q ≤ c := by omega
          clear hcQ
          have F_g := Lib.hid (show Boxed (w.alloc (.cells #[.int .u64 P, .int .u64 Q, .int .u64 G] 24)) (w.heap.size) P Q G from Boxed.at _ P Q G _ (w.heap.size) (by simp))
          have HBW := Lib.hid (show Below w.heap.size w (w.alloc (.cells #[.int .u64 P, .int .u64 Q, .int .u64 G] 24)) from (Below.refl _ _).alloc (by simp <;> omega) _)
          go_enter Try.func4, Try.ntmps4
          obtain ⟨x0a, x0b, x0c, -⟩ := id F_g.out
          go_wp2_with fail
          clear x0a x0b x0c
          refine (alive_yes _).mono ?_
          rintro e w1 ⟨rfl, hb1⟩
          replace F_g := Lib.hid (F_g.out.keep hb1)
          replace HBW := Lib.hid (HBW.out.trans (hb1.mono HBW.out.size))
          clear hb1
          obtain ⟨x0a, x0b, x0c, -⟩ := id F_g.out
          go_wp2_with fail
          clear x0a x0b x0c
          refine (gcheck_any P Q G 0 _ hP hQ hG HV.out).mono ?_
          rintro e w2 ⟨rfl, hb2⟩
          replace F_g := Lib.hid (F_g.out.keep hb2)
          replace HBW := Lib.hid (HBW.out.trans (hb2.mono HBW.out.size))
          clear hb2
          obtain ⟨x0a, x0b, x0c, -⟩ := id F_g.out
          go_wp2_with fail
          go_ret
          exact ⟨rfl, HBW.out⟩
        case pos =>
          have cQ := hcQ
          clear hcQ
          obtain ⟨y, hy⟩ : ∃ y, powm G x P = y := ⟨_, rfl⟩
          obtain ⟨r, hr⟩ : ∃ r, powm G k P = r := ⟨_, rfl⟩
          obtain ⟨s, hs⟩ : ∃ s, (k + c * x % Q) % Q = s := ⟨_, rfl⟩
          have my : Mem P Q y := by rw [← hy]; exact HG.out.mem_pow HG.out.mem_g x
          have mr : Mem P Q r := by rw [← hr]; exact HG.out.mem_pow HG.out.mem_g k
          have y0 : 0 ≤ y := Int.le_of_lt my.1
          have r0 : 0 ≤ r := Int.le_of_lt mr.1
          have s0 : 0 ≤ s := by rw [← hs]; exact Int.emod_nonneg _ (by omega)
          have sQ : s < Q := by rw [← hs]; exact Int.emod_lt_of_pos _ (by omega)
          have UX := Lib.hid (show U64 x from ux)
          have UK := Lib.hid (show U64 k from uk)
          have HY := Lib.hid hy
          have HK := Lib.hid hr
          have HS := Lib.hid (show RetS (askS P Q G [x, k, c] []) ((k + c * x % Q) % Q) s 0 from .inl ⟨askS_ok HH.out (by simpa using ⟨xQ, kQ, cQ⟩) (by simp), hs.symm, rfl⟩)
          have HL := Lib.hid (show RetB (askS P Q G [c, s] [y, r]) (powm G s P = r * powm y c P % P) true 0 from .inl ⟨askS_ok HH.out (by simpa using ⟨cQ, sQ⟩) (by simpa using ⟨my.2.1, mr.2.1⟩), by rw [← hy, ← hr]; simpa using resp_holds HG.out hx hk hc hs, rfl⟩)
          clear hy hr hs my mr
          have F_g := Lib.hid (show Boxed (w.alloc (.cells #[.int .u64 P, .int .u64 Q, .int .u64 G] 24)) (w.heap.size) P Q G from Boxed.at _ P Q G _ (w.heap.size) (by simp))
          have HBW := Lib.hid (show Below w.heap.size w (w.alloc (.cells #[.int .u64 P, .int .u64 Q, .int .u64 G] 24)) from (Below.refl _ _).alloc (by simp <;> omega) _)
          go_enter Try.func4, Try.ntmps4
          obtain ⟨x0a, x0b, x0c, -⟩ := id F_g.out
          go_wp2_with fail
          clear x0a x0b x0c
          refine (alive_yes _).mono ?_
          rintro e w1 ⟨rfl, hb1⟩
          replace F_g := Lib.hid (F_g.out.keep hb1)
          replace HBW := Lib.hid (HBW.out.trans (hb1.mono HBW.out.size))
          clear hb1
          obtain ⟨x0a, x0b, x0c, -⟩ := id F_g.out
          go_wp2_with fail
          clear x0a x0b x0c
          refine (gcheck_any P Q G 0 _ hP hQ hG HV.out).mono ?_
          rintro e w2 ⟨rfl, hb2⟩
          replace F_g := Lib.hid (F_g.out.keep hb2)
          replace HBW := Lib.hid (HBW.out.trans (hb2.mono HBW.out.size))
          clear hb2
          obtain ⟨x0a, x0b, x0c, -⟩ := id F_g.out
          go_wp2_with fail
          clear x0a x0b x0c
          refine (pow_ok P Q G G x y _ HH.out hG gP UX.out HY.out).mono ?_
          rintro e w3 ⟨rfl, hb3⟩
          replace F_g := Lib.hid (F_g.out.keep hb3)
          replace HBW := Lib.hid (HBW.out.trans (hb3.mono HBW.out.size))
          clear hb3
          obtain ⟨x0a, x0b, x0c, -⟩ := id F_g.out
          go_wp2_with fail
          clear x0a x0b x0c
          refine (pow_ok P Q G G k r _ HH.out hG gP UK.out HK.out).mono ?_
          rintro e w4 ⟨rfl, hb4⟩
          replace F_g := Lib.hid (F_g.out.keep hb4)
          replace HBW := Lib.hid (HBW.out.trans (hb4.mono HBW.out.size))
          clear hb4
          obtain ⟨x0a, x0b, x0c, -⟩ := id F_g.out
          go_wp2_with fail
          clear x0a x0b x0c
          refine (srespond_any _ hP hQ hG hx hk hc HS.out).mono ?_
          rintro e w5 ⟨rfl, hb5⟩
          replace F_g := Lib.hid (F_g.out.keep hb5)
          replace HBW := Lib.hid (HBW.out.trans (hb5.mono HBW.out.size))
          clear hb5
          obtain ⟨x0a, x0b, x0c, -⟩ := id F_g.out
          go_wp2_with fail
          clear x0a x0b x0c
          refine (sholds_any _ hP hQ hG y0 r0 hc s0 HL.out).mono ?_
          rintro e w6 ⟨rfl, hb6⟩
          replace F_g := Lib.hid (F_g.out.keep hb6)
          replace HBW := Lib.hid (HBW.out.trans (hb6.mono HBW.out.size))
          clear hb6
          obtain ⟨x0a, x0b, x0c, -⟩ := id F_g.out
          go_wp2_with fail
          go_ret
          exact ⟨rfl, HBW.out⟩


set_option maxRecDepth 100000 in
theorem lifted (os : Os) (started : os.Started) (H : Type) (enc : TypeId × Value → H) :
    ReturnsInHanded {} Try.checked os 4 .any (Rows.schnorrHoldsSpec.pre6 enc Try.prog Try.f4 Rows.schnorrHoldsRow.domain false) (Rows.schnorrHoldsSpec.post enc Try.prog Try.f4 false true false false) := by
  refine returnsInHanded_of_change (C := Try.checked) own started (by kernel_rfl) Try.func4
    (ChangeSpec.witness6 (enc := enc) (C := Try.checked) false ⟨#[], #[.agg #[.int .u64 0, .int .u64 0, .int .u64 0], .int .u64 0, .int .u64 0, .int .u64 0], []⟩ 8 (by kernel_rfl) (by kernel_rfl) (by kernel_rfl) (by kernel_rfl)) ?_
  intro W base args ds gs before hval0 hW _ _
  have hval : ∀ (j : Nat) t v, Try.f4.params[j]? = some t → args[j]? = some v → Value.okWide Try.prog W .any base t v := hval0
  have hW' := hW
  obtain ⟨p, q, hA0, hV, rfl, hfz, hnd⟩ := hW
  have hA : DataW.TrodAll enc Try.prog W 0 (fun _ => true) true Try.f4.params.toList args.toList ds p := hA0
  rw [Try.params4] at hA hval
  have hK := hA
  obtain ⟨v0, vs0, d0, ds0, p0, q0, hargs, rfl, rfl, h0, r0⟩ := trodAll_cons hA
  obtain ⟨v1, vs1, d1, ds1, p1, q1, rfl, rfl, rfl, h1, r1⟩ := trodAll_cons r0
  obtain ⟨v2, vs2, d2, ds2, p2, q2, rfl, rfl, rfl, h2, r2⟩ := trodAll_cons r1
  obtain ⟨v3, vs3, d3, ds3, p3, q3, rfl, rfl, rfl, h3, r3⟩ := trodAll_cons r2
  obtain ⟨rfl, rfl, rfl⟩ := trodAll_nil r3
  obtain rfl : args = #[v0, v1, v2, v3] := by cases args; simp_all
  obtain ⟨rfl, rfl⟩ := trodVars_none hV
  obtain ⟨P, Q, G, rfl, uP, uQ, uG⟩ := open_group (hval 0 24 v0 rfl rfl) h0
  obtain ⟨x, rfl, ux⟩ := open_u64 (hval 1 22 v1 rfl rfl) h1
  obtain ⟨k, rfl, uk⟩ := open_u64 (hval 2 22 v2 rfl rfl) h2
  obtain ⟨c, rfl, uc⟩ := open_u64 (hval 3 22 v3 rfl rfl) h3
  clear hA0 hval0
  refine (walk P Q G x k c W uP uQ uG ux uk uc).mono fun e W' ⟨he, bel⟩ => ?_
  subst he
  exact ⟨_, rfl, _, _, _, [], _, [], hW', trodAll_mk1 (shut_bool Try.underlying4 _), trodAll_stays laidOut (by kernel_rfl) hK bel, rfl, bel.frame _, fun h => by cases h⟩

theorem over : Rows.schnorrHoldsRow.holds Try.pinned (OpenSpec.ofChange Rows.schnorrHoldsSpec) :=
  OpenClaim.holds_of_wide 4 Try.f4 rfl rfl rfl rfl rfl rfl rfl ⟨rfl, rfl, rfl, rfl, rfl⟩ rfl rfl rfl rfl rfl (by kernel_rfl) Try.func4 (by kernel_rfl)
    (of_decide_eq_true (by kernel_rfl)) (by unfold Func.isWrapper; first | (rw [if_pos (by decide +kernel)]; kernel_rfl) | (rw [if_neg (by decide +kernel)]; exact ⟨rfl, rfl⟩))
    (fun os started H enc _ => lifted os started H enc)

theorem proved : Rows.SchnorrHoldsSaid := over
#print axioms proved
end Go.Proofs.Ytanlnhjjdiaphaa.lawHolds
