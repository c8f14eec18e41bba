/- ProofEqualComplete: the statement: for every input the law returns true, and the arguments read as before. -/
import Derived.Test.YtmcpfinnhgbcpaaDoorCardP
import Derived.Test.YtmcpfinnhgbcpaaDoorAux33
import Derived.Test.YtmcpfinnhgbcpaaDoorLaw31
namespace Go.Proofs.YtmcpfinnhgbcpaaDoor.lawEqComp
open Go Sha Go.ChangeShapes Go.WideShapes Go.ChangeAt Go.RowKit Num
set_option linter.unusedSimpArgs false
set_option linter.unusedVariables false

/-- A response holds for any base. -/
theorem resp_of {P Q G a x k c s : Int} (g : Grp P Q G) (ha : Mem P Q a) (x0 : 0 ≤ x) (k0 : 0 ≤ k) (c0 : 0 ≤ c) (hs : (k + c * x % Q) % Q = s) : powm a s P = powm a k P * powm (powm a x P) c P % P := by
  have q2 := g.pQ.1
  rw [← powm_mul a P x0 c0, ← powm_add a P k0 (Int.mul_nonneg x0 c0)]
  have s0 : 0 ≤ s := by rw [← hs]; exact Int.emod_nonneg _ (by omega)
  refine g.period_cg ha s0 (Int.add_nonneg k0 (Int.mul_nonneg x0 c0)) ?_
  rw [← hs]
  refine (cg_emod Q _).trans ((Cg.refl Q k).add ?_)
  rw [Int.mul_comm x c]
  exact cg_emod Q _
set_option maxRecDepth 100000 in
set_option maxHeartbeats 12800000 in
theorem walk (P Q G a x k : Int) (tx : Option Addr) (n cp : Nat) (T : List Int) (w : World) (uP : U64 P) (uQ : U64 Q) (uG : U64 G) (ua : U64 a) (ux : U64 x) (uk : U64 k) (ht : ShI .u8 w tx n T) (hb : ByteL T) (hz : tx = none → cp = 0) (hnc : n ≤ cp) (hT : Tabs w) :
    Calls Tryd.prog 5 #[.agg #[.int .u64 P, .int .u64 Q, .int .u64 G], .int .u64 a, .int .u64 x, .int .u64 k, .slice tx n cp] w fun e w' => e = .returned (.bool true) ∧ Below w.heap.size w w' := by
  have hP := uP.1
  have hQ := uQ.1
  have hG := uG.1
  have ha := ua.1
  have hx := ux.1
  have hk := uk.1
  have HT := Lib.hid (show Txt w tx n T from ⟨hT, ht, hb⟩)
  clear ht hb hT hz hnc
  by_cases hv : Valid P Q G
  case neg =>
    have HV := Lib.hid (show ValidS P Q G 300 from .inr ⟨hv, rfl⟩)
    clear hv
    have F_g := Lib.hid (show Boxed (w.alloc (.cells #[.int .u64 P, .int .u64 Q, .int .u64 G] 24)) (w.heap.size) P Q G from Boxed.at _ P Q G _ (w.heap.size) (by simp))
    have HBW := Lib.hid (show Below w.heap.size w (w.alloc (.cells #[.int .u64 P, .int .u64 Q, .int .u64 G] 24)) from (Below.refl _ _).alloc (by simp <;> omega) _)
    go_enter Tryd.func5, Tryd.ntmps5
    obtain ⟨x0a, x0b, x0c, -⟩ := id F_g.out
    go_wp2_with fail
    clear x0a x0b x0c
    refine (alive_yes _).mono ?_
    rintro e w1 ⟨rfl, hb1⟩
    replace F_g := Lib.hid (F_g.out.keep hb1)
    replace HBW := Lib.hid (HBW.out.trans (hb1.mono HBW.out.size))
    clear hb1
    obtain ⟨x0a, x0b, x0c, -⟩ := id F_g.out
    go_wp2_with fail
    clear x0a x0b x0c
    refine (gcheck_any P Q G 300 _ hP hQ hG HV.out).mono ?_
    rintro e w2 ⟨rfl, hb2⟩
    replace F_g := Lib.hid (F_g.out.keep hb2)
    replace HBW := Lib.hid (HBW.out.trans (hb2.mono HBW.out.size))
    clear hb2
    obtain ⟨x0a, x0b, x0c, -⟩ := id F_g.out
    go_wp2_with fail
    go_ret
    exact ⟨rfl, HBW.out⟩
  case pos =>
    have HV := Lib.hid (show ValidS P Q G 0 from .inl ⟨hv, rfl⟩)
    have HG := Lib.hid hv.grp
    have HH := Lib.hid hv.has
    obtain ⟨p5, p3, _, pq, g2, gP⟩ := id hv.1
    have q3 : Q < 1073741824 := by omega
    clear hv pq
    by_cases ma_ : Mem P Q a
    case neg =>
      have HM_a := Lib.hid ma_
      clear ma_
      have F_g := Lib.hid (show Boxed (w.alloc (.cells #[.int .u64 P, .int .u64 Q, .int .u64 G] 24)) (w.heap.size) P Q G from Boxed.at _ P Q G _ (w.heap.size) (by simp))
      have HBW := Lib.hid (show Below w.heap.size w (w.alloc (.cells #[.int .u64 P, .int .u64 Q, .int .u64 G] 24)) from (Below.refl _ _).alloc (by simp <;> omega) _)
      go_enter Tryd.func5, Tryd.ntmps5
      obtain ⟨x0a, x0b, x0c, -⟩ := id F_g.out
      go_wp2_with fail
      clear x0a x0b x0c
      refine (alive_yes _).mono ?_
      rintro e w1 ⟨rfl, hb1⟩
      replace F_g := Lib.hid (F_g.out.keep hb1)
      replace HBW := Lib.hid (HBW.out.trans (hb1.mono HBW.out.size))
      clear hb1
      obtain ⟨x0a, x0b, x0c, -⟩ := id F_g.out
      go_wp2_with fail
      clear x0a x0b x0c
      refine (gcheck_any P Q G 0 _ hP hQ hG HV.out).mono ?_
      rintro e w2 ⟨rfl, hb2⟩
      replace F_g := Lib.hid (F_g.out.keep hb2)
      replace HBW := Lib.hid (HBW.out.trans (hb2.mono HBW.out.size))
      clear hb2
      obtain ⟨x0a, x0b, x0c, -⟩ := id F_g.out
      go_wp2_with fail
      clear x0a x0b x0c
      refine (member_is (r := false) _ hP hQ hG ha (by simp [HM_a.out])).mono ?_
      rintro e w3 ⟨rfl, hb3⟩
      replace F_g := Lib.hid (F_g.out.keep hb3)
      replace HBW := Lib.hid (HBW.out.trans (hb3.mono HBW.out.size))
      clear hb3
      obtain ⟨x0a, x0b, x0c, -⟩ := id F_g.out
      go_wp2_with fail
      go_ret
      exact ⟨rfl, HBW.out⟩
    case pos =>
      have HM_a := Lib.hid ma_
      clear ma_
      by_cases hxQ : x < Q
      case neg =>
        have xQ_ : Q ≤ x := by omega
        clear hxQ
        have F_g := Lib.hid (show Boxed (w.alloc (.cells #[.int .u64 P, .int .u64 Q, .int .u64 G] 24)) (w.heap.size) P Q G from Boxed.at _ P Q G _ (w.heap.size) (by simp))
        have HBW := Lib.hid (show Below w.heap.size w (w.alloc (.cells #[.int .u64 P, .int .u64 Q, .int .u64 G] 24)) from (Below.refl _ _).alloc (by simp <;> omega) _)
        go_enter Tryd.func5, Tryd.ntmps5
        obtain ⟨x0a, x0b, x0c, -⟩ := id F_g.out
        go_wp2_with fail
        clear x0a x0b x0c
        refine (alive_yes _).mono ?_
        rintro e w1 ⟨rfl, hb1⟩
        replace F_g := Lib.hid (F_g.out.keep hb1)
        replace HBW := Lib.hid (HBW.out.trans (hb1.mono HBW.out.size))
        clear hb1
        obtain ⟨x0a, x0b, x0c, -⟩ := id F_g.out
        go_wp2_with fail
        clear x0a x0b x0c
        refine (gcheck_any P Q G 0 _ hP hQ hG HV.out).mono ?_
        rintro e w2 ⟨rfl, hb2⟩
        replace F_g := Lib.hid (F_g.out.keep hb2)
        replace HBW := Lib.hid (HBW.out.trans (hb2.mono HBW.out.size))
        clear hb2
        obtain ⟨x0a, x0b, x0c, -⟩ := id F_g.out
        go_wp2_with fail
        clear x0a x0b x0c
        refine (member_is (r := true) _ hP hQ hG ha (by simp [HM_a.out, HH.out])).mono ?_
        rintro e w3 ⟨rfl, hb3⟩
        replace F_g := Lib.hid (F_g.out.keep hb3)
        replace HBW := Lib.hid (HBW.out.trans (hb3.mono HBW.out.size))
        clear hb3
        obtain ⟨x0a, x0b, x0c, -⟩ := id F_g.out
        go_wp2_with fail
        go_ret
        exact ⟨rfl, HBW.out⟩
      case pos =>
        have xQ := hxQ
        clear hxQ
        by_cases hkQ : k < Q
        case neg =>
          have kQ_ : Q ≤ k := by omega
          clear hkQ
          have F_g := Lib.hid (show Boxed (w.alloc (.cells #[.int .u64 P, .int .u64 Q, .int .u64 G] 24)) (w.heap.size) P Q G from Boxed.at _ P Q G _ (w.heap.size) (by simp))
          have HBW := Lib.hid (show Below w.heap.size w (w.alloc (.cells #[.int .u64 P, .int .u64 Q, .int .u64 G] 24)) from (Below.refl _ _).alloc (by simp <;> omega) _)
          go_enter Tryd.func5, Tryd.ntmps5
          obtain ⟨x0a, x0b, x0c, -⟩ := id F_g.out
          go_wp2_with fail
          clear x0a x0b x0c
          refine (alive_yes _).mono ?_
          rintro e w1 ⟨rfl, hb1⟩
          replace F_g := Lib.hid (F_g.out.keep hb1)
          replace HBW := Lib.hid (HBW.out.trans (hb1.mono HBW.out.size))
          clear hb1
          obtain ⟨x0a, x0b, x0c, -⟩ := id F_g.out
          go_wp2_with fail
          clear x0a x0b x0c
          refine (gcheck_any P Q G 0 _ hP hQ hG HV.out).mono ?_
          rintro e w2 ⟨rfl, hb2⟩
          replace F_g := Lib.hid (F_g.out.keep hb2)
          replace HBW := Lib.hid (HBW.out.trans (hb2.mono HBW.out.size))
          clear hb2
          obtain ⟨x0a, x0b, x0c, -⟩ := id F_g.out
          go_wp2_with fail
          clear x0a x0b x0c
          refine (member_is (r := true) _ hP hQ hG ha (by simp [HM_a.out, HH.out])).mono ?_
          rintro e w3 ⟨rfl, hb3⟩
          replace F_g := Lib.hid (F_g.out.keep hb3)
          replace HBW := Lib.hid (HBW.out.trans (hb3.mono HBW.out.size))
          clear hb3
          obtain ⟨x0a, x0b, x0c, -⟩ := id F_g.out
          go_wp2_with fail
          go_ret
          exact ⟨rfl, HBW.out⟩
        case pos =>
          have kQ := hkQ
          clear hkQ
          by_cases hn : n ≤ 8000
          case neg =>
            have hd : decide ((8000 : Int) < (n : Int)) = true := by simp; omega
            have hdn : decide (8000 < n) = true := by simp; omega
            clear hn
            have F_g := Lib.hid (show Boxed (w.alloc (.cells #[.int .u64 P, .int .u64 Q, .int .u64 G] 24)) (w.heap.size) P Q G from Boxed.at _ P Q G _ (w.heap.size) (by simp))
            have HBW := Lib.hid (show Below w.heap.size w (w.alloc (.cells #[.int .u64 P, .int .u64 Q, .int .u64 G] 24)) from (Below.refl _ _).alloc (by simp <;> omega) _)
            go_enter Tryd.func5, Tryd.ntmps5
            obtain ⟨x0a, x0b, x0c, -⟩ := id F_g.out
            go_wp2_with fail
            clear x0a x0b x0c
            refine (alive_yes _).mono ?_
            rintro e w1 ⟨rfl, hb1⟩
            replace F_g := Lib.hid (F_g.out.keep hb1)
            replace HBW := Lib.hid (HBW.out.trans (hb1.mono HBW.out.size))
            clear hb1
            obtain ⟨x0a, x0b, x0c, -⟩ := id F_g.out
            go_wp2_with fail
            clear x0a x0b x0c
            refine (gcheck_any P Q G 0 _ hP hQ hG HV.out).mono ?_
            rintro e w2 ⟨rfl, hb2⟩
            replace F_g := Lib.hid (F_g.out.keep hb2)
            replace HBW := Lib.hid (HBW.out.trans (hb2.mono HBW.out.size))
            clear hb2
            obtain ⟨x0a, x0b, x0c, -⟩ := id F_g.out
            go_wp2_with fail
            clear x0a x0b x0c
            refine (member_is (r := true) _ hP hQ hG ha (by simp [HM_a.out, HH.out])).mono ?_
            rintro e w3 ⟨rfl, hb3⟩
            replace F_g := Lib.hid (F_g.out.keep hb3)
            replace HBW := Lib.hid (HBW.out.trans (hb3.mono HBW.out.size))
            clear hb3
            obtain ⟨x0a, x0b, x0c, -⟩ := id F_g.out
            go_wp2_with fail
            go_ret
            exact ⟨rfl, HBW.out⟩
          case pos =>
            have hd : decide ((8000 : Int) < (n : Int)) = false := by simp; omega
            have hdn : decide (8000 < n) = false := by simp; omega
            have ma := HM_a.out
            have aP := ma.2.1
            have a0 : 0 ≤ a := Int.le_of_lt ma.1
            obtain ⟨y, hy⟩ : ∃ y, powm G x P = y := ⟨_, rfl⟩
            obtain ⟨d, hd_⟩ : ∃ d, powm a x P = d := ⟨_, rfl⟩
            obtain ⟨R, hR⟩ : ∃ R, powm G k P = R := ⟨_, rfl⟩
            obtain ⟨S, hS⟩ : ∃ S, powm a k P = S := ⟨_, rfl⟩
            obtain ⟨h_, hh⟩ : ∃ h_, chV Q [y, a, d, R, S] T = h_ := ⟨_, rfl⟩
            obtain ⟨Z, hZ⟩ : ∃ Z, (k + h_ * x % Q) % Q = Z := ⟨_, rfl⟩
            have hZe : Z = eqZ P Q G a x k T := by rw [eqZ, hy, hd_, hR, hS, hh, hZ]
            obtain ⟨h0, hQQ⟩ : 0 ≤ h_ ∧ h_ < Q := by rw [← hh]; exact chV_range (by omega) _ _
            have my : Mem P Q y := by rw [← hy]; exact HG.out.mem_pow HG.out.mem_g x
            have md : Mem P Q d := by rw [← hd_]; exact HG.out.mem_pow ma x
            have mr : Mem P Q R := by rw [← hR]; exact HG.out.mem_pow HG.out.mem_g k
            have ms : Mem P Q S := by rw [← hS]; exact HG.out.mem_pow ma k
            have Z0 : 0 ≤ Z := by rw [← hZ]; exact Int.emod_nonneg _ (by omega)
            have ZQ : Z < Q := by rw [← hZ]; exact Int.emod_lt_of_pos _ (by omega)
            have y0 : 0 ≤ y := Int.le_of_lt my.1
            have d0 : 0 ≤ d := Int.le_of_lt md.1
            have R0 : 0 ≤ R := Int.le_of_lt mr.1
            have S0 : 0 ≤ S := Int.le_of_lt ms.1
            have UX := Lib.hid ux
            have HY := Lib.hid hy
            have HD := Lib.hid hd_
            have H1 := Lib.hid (show RetE (lgS (askS P Q G [x, k] [a]) n) (powm G k P) (powm a k P) (eqZ P Q G a x k T) R S Z 0 from .inl ⟨lgS_ok (askS_ok HH.out (by simpa using ⟨xQ, kQ⟩) (by simpa using aP)) hn, hR.symm, hS.symm, hZe, rfl⟩)
            have H2 := Lib.hid (show RetB (lgS (askS P Q G [Z] [y, a, d, R, S]) n) (evP P Q G y a d R S Z T) true 0 from .inl ⟨lgS_ok (askS_ok HH.out (by simpa using ZQ) (by simpa using ⟨my.2.1, aP, md.2.1, mr.2.1, ms.2.1⟩)) hn, by
              refine ⟨fun _ => ⟨?_, ?_, ?_⟩, fun _ => rfl⟩
              · intro z hz
                simp at hz
                rcases hz with rfl | rfl | rfl | rfl | rfl <;> assumption
              · rw [hh, ← hR, ← hy]
                exact resp_holds HG.out hx hk h0 hZ
              · rw [hh, ← hS, ← hd_]
                exact resp_of HG.out ma hx hk h0 hZ, rfl⟩)
            clear hy hd_ hR hS hh hZ hZe my md mr ms ma ux uk
            have F_g := Lib.hid (show Boxed (w.alloc (.cells #[.int .u64 P, .int .u64 Q, .int .u64 G] 24)) (w.heap.size) P Q G from Boxed.at _ P Q G _ (w.heap.size) (by simp))
            have HBW := Lib.hid (show Below w.heap.size w (w.alloc (.cells #[.int .u64 P, .int .u64 Q, .int .u64 G] 24)) from (Below.refl _ _).alloc (by simp <;> omega) _)
            go_enter Tryd.func5, Tryd.ntmps5
            obtain ⟨x0a, x0b, x0c, -⟩ := id F_g.out
            go_wp2_with fail
            clear x0a x0b x0c
            refine (alive_yes _).mono ?_
            rintro e w1 ⟨rfl, hb1⟩
            replace F_g := Lib.hid (F_g.out.keep hb1)
            replace HBW := Lib.hid (HBW.out.trans (hb1.mono HBW.out.size))
            clear hb1
            obtain ⟨x0a, x0b, x0c, -⟩ := id F_g.out
            go_wp2_with fail
            clear x0a x0b x0c
            refine (gcheck_any P Q G 0 _ hP hQ hG HV.out).mono ?_
            rintro e w2 ⟨rfl, hb2⟩
            replace F_g := Lib.hid (F_g.out.keep hb2)
            replace HBW := Lib.hid (HBW.out.trans (hb2.mono HBW.out.size))
            clear hb2
            obtain ⟨x0a, x0b, x0c, -⟩ := id F_g.out
            go_wp2_with fail
            clear x0a x0b x0c
            refine (member_is (r := true) _ hP hQ hG ha (by simp [HM_a.out, HH.out])).mono ?_
            rintro e w3 ⟨rfl, hb3⟩
            replace F_g := Lib.hid (F_g.out.keep hb3)
            replace HBW := Lib.hid (HBW.out.trans (hb3.mono HBW.out.size))
            clear hb3
            obtain ⟨x0a, x0b, x0c, -⟩ := id F_g.out
            go_wp2_with fail
            clear x0a x0b x0c
            refine (pow_ok P Q G G x y _ HH.out hG gP UX.out HY.out).mono ?_
            rintro e w4 ⟨rfl, hb4⟩
            replace F_g := Lib.hid (F_g.out.keep hb4)
            replace HBW := Lib.hid (HBW.out.trans (hb4.mono HBW.out.size))
            clear hb4
            obtain ⟨x0a, x0b, x0c, -⟩ := id F_g.out
            go_wp2_with fail
            clear x0a x0b x0c
            refine (pow_ok P Q G a x d _ HH.out ha aP UX.out HD.out).mono ?_
            rintro e w5 ⟨rfl, hb5⟩
            replace F_g := Lib.hid (F_g.out.keep hb5)
            replace HBW := Lib.hid (HBW.out.trans (hb5.mono HBW.out.size))
            clear hb5
            obtain ⟨x0a, x0b, x0c, -⟩ := id F_g.out
            go_wp2_with fail
            clear x0a x0b x0c
            refine (peqProve_any _ (HT.out.keep HBW.out) hP hQ hG a0 hx hk (by omega) H1.out).mono ?_
            rintro e w6 ⟨rfl, hb6⟩
            replace F_g := Lib.hid (F_g.out.keep hb6)
            replace HBW := Lib.hid (HBW.out.trans (hb6.mono HBW.out.size))
            clear hb6
            have hzg := F_g.out.lt
            obtain ⟨x0a, x0b, x0c, -⟩ := id F_g.out
            go_wp2_with fail
            clear hzg
            replace F_g := Lib.hid (F_g.out.alloc (.cells #[.int .u64 R, .int .u64 S, .int .u64 Z] 26))
            have F_pf := Lib.hid (show Arr .u64 (w6.alloc (.cells #[.int .u64 R, .int .u64 S, .int .u64 Z] 26)) (w6.heap.size) [R, S, Z] from Arr.new .u64 w6 [R, S, Z] _ _ rfl)
            replace HBW := Lib.hid (HBW.out.alloc HBW.out.size (.cells #[.int .u64 R, .int .u64 S, .int .u64 Z] 26))
            clear x0a x0b x0c
            refine (peqVerify_any _ (HT.out.keep HBW.out) hP hQ hG y0 a0 d0 R0 S0 Z0 (by omega) H2.out).mono ?_
            rintro e w7 ⟨rfl, hb7⟩
            replace F_g := Lib.hid (F_g.out.keep hb7)
            replace F_pf := Lib.hid (F_pf.out.keep hb7)
            replace HBW := Lib.hid (HBW.out.trans (hb7.mono HBW.out.size))
            clear hb7
            obtain ⟨q1_0, q1_1, q1_2, q1_3, q1_4, q1_5⟩ := Arr.k3 F_pf.out
            obtain ⟨x0a, x0b, x0c, -⟩ := id F_g.out
            go_wp2_with fail
            go_ret
            exact ⟨rfl, HBW.out⟩


set_option maxRecDepth 100000 in
theorem lifted (os : Os) (started : os.Started) (H : Type) (enc : TypeId × Value → H) :
    ReturnsInHanded {} Tryd.checked os 5 .any (fun w args => (Rows.proofEqualCompleteSpec.pre enc Tryd.prog Tryd.f5 [] false w args ∧ laidMetH Tryd.prog laidL w) ∧ sizedMet enc Tryd.prog Tryd.f5 (OpenSpec.ofChange Rows.proofEqualCompleteSpec) false w args) (Rows.proofEqualCompleteSpec.post enc Tryd.prog Tryd.f5 false true false false) := by
  refine returnsInHanded_of_change_and (C := Tryd.checked) (X := fun w _ => laidMetH Tryd.prog laidL w) (fun _ _ _ hh h => h.of_heap hh) own started (by kernel_rfl) Tryd.func5
    (ChangeSpec.witness_shaped (enc := enc) (C := Tryd.checked) (os := os) (X := fun w _ => laidMetH Tryd.prog laidL w) false (World.doorLaid Tryd.prog 19 os) #[.agg #[.int .u64 0, .int .u64 0, .int .u64 0], .int .u64 0, .int .u64 0, .int .u64 0, .slice none 0 0] 8 rfl (World.shaped_of_RefB (by kernel_rfl) (by kernel_rfl)) (by kernel_rfl) (by kernel_rfl) (by kernel_rfl) (door_met os _)) ?_
  intro W base args ds gs before hval0 hW _ _ hL _
  have hT := tabs_of_laid hL
  clear hL
  have hval : ∀ (j : Nat) t v, Tryd.f5.params[j]? = some t → args[j]? = some v → Value.okWide Tryd.prog W .any base t v := hval0
  have hW' := hW
  obtain ⟨p, q, hA0, hV, rfl, hfz, hnd⟩ := hW
  have hA : DataW.TrodAll enc Tryd.prog W 0 (fun _ => true) true Tryd.f5.params.toList args.toList ds p := hA0
  rw [Tryd.params5] at hA hval
  have hK := hA
  obtain ⟨v0, vs0, d0, ds0, p0, q0, hargs, rfl, rfl, h0, r0⟩ := trodAll_cons hA
  obtain ⟨v1, vs1, d1, ds1, p1, q1, rfl, rfl, rfl, h1, r1⟩ := trodAll_cons r0
  obtain ⟨v2, vs2, d2, ds2, p2, q2, rfl, rfl, rfl, h2, r2⟩ := trodAll_cons r1
  obtain ⟨v3, vs3, d3, ds3, p3, q3, rfl, rfl, rfl, h3, r3⟩ := trodAll_cons r2
  obtain ⟨v4, vs4, d4, ds4, p4, q4, rfl, rfl, rfl, h4, r4⟩ := trodAll_cons r3
  obtain ⟨rfl, rfl, rfl⟩ := trodAll_nil r4
  obtain rfl : args = #[v0, v1, v2, v3, v4] := by cases args; simp_all
  obtain ⟨rfl, rfl⟩ := trodVars_none hV
  obtain ⟨P, Q, G, rfl, uP, uQ, uG⟩ := open_group (hval 0 24 v0 rfl rfl) h0
  obtain ⟨a, rfl, ua⟩ := open_u64 (hval 1 22 v1 rfl rfl) h1
  obtain ⟨x, rfl, ux⟩ := open_u64 (hval 2 22 v2 rfl rfl) h2
  obtain ⟨k, rfl, uk⟩ := open_u64 (hval 3 22 v3 rfl rfl) h3
  obtain ⟨tx, n, cp, T, rfl, ht, hb, hz, hnc⟩ := open_bytes (hval 4 27 v4 rfl rfl) h4
  clear hA0 hval0
  refine (walk P Q G a x k tx n cp T W uP uQ uG ua ux uk ht hb hz hnc hT).mono fun e W' ⟨he, bel⟩ => ?_
  subst he
  exact ⟨_, rfl, _, _, _, [], _, [], hW', trodAll_mk1 (shut_bool Tryd.underlying4 _), trodAll_stays laidOut (by kernel_rfl) hK bel, rfl, bel.frame _, fun h => by cases h⟩

theorem over : Rows.proofEqualCompleteRow.holds Tryd.pinned (OpenSpec.ofChange Rows.proofEqualCompleteSpec) :=
  OpenClaim.holds_of_wide 5 Tryd.f5 rfl rfl rfl rfl rfl rfl rfl ⟨rfl, rfl, rfl, rfl, rfl⟩ rfl rfl rfl rfl rfl (by kernel_rfl) Tryd.func5 (by kernel_rfl)
    (of_decide_eq_true (by kernel_rfl)) (by unfold Func.isWrapper; first | (rw [if_pos (by decide +kernel)]; kernel_rfl) | (rw [if_neg (by decide +kernel)]; exact ⟨rfl, rfl⟩))
    (fun os started H enc _ => lifted os started H enc)

theorem proved : Rows.ProofEqualCompleteCardSaid :=
  Claim7.holds_tied_plain_at .later [] [.data, .data] true (true, "4b41c1e4d249352bcdad7fb442f9b4095dc9194e4b92b27cabf601e235f481d5") false
    over (fun _ h => by cases h) (by kernel_rfl) (fun _ h => by cases h) proofEqualComplete_row_tie rfl ⟨rfl, rfl⟩ (by kernel_rfl) rfl
    (fun f fn hf hfn => by
      obtain rfl : f = 5 := Option.some.inj ((show Tryd.prog.funcNamed "suffrage/suffragelaw33.ProofEqualComplete" = some 5 by kernel_rfl).symm.trans hf) |>.symm
      obtain rfl : fn = Tryd.f5 := (Option.some.inj (Tryd.func5.symm.trans hfn)).symm
      exact ⟨by kernel_rfl, fun j t ht => by
        rw [Tryd.params5] at ht
        have hm : t ∈ ([24, 22, 22, 22, 27] : List TypeId) := by simpa using Array.mem_of_getElem? ht
        have hall : (([24, 22, 22, 22, 27] : List TypeId).all fun u => !Tryd.prog.wantsStandIn u) = true := by kernel_rfl
        exact (show Tryd.prog.wantsStandIn t = false by simpa using List.all_eq_true.1 hall t hm)⟩)
    (by kernel_rfl)
#print axioms proved
end Go.Proofs.YtmcpfinnhgbcpaaDoor.lawEqComp
