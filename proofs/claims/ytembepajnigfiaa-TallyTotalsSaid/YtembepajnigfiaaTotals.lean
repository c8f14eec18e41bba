/- TallyTotals: the statement: for every input the law returns true, and the arguments read as before. -/
import Derived.Test.YtembepajnigfiaaTotC
import Derived.Test.YtembepajnigfiaaTotD
import Derived.Test.YtembepajnigfiaaOpen
import Derived.Test.YtembepajnigfiaaRows
namespace Go.Proofs.Ytembepajnigfiaa.lawTotals
open Go.ChangeShapes Go.WideShapes Go.ChangeAt Go.RowKit Num
set_option linter.unusedSimpArgs false
set_option linter.unusedVariables false

theorem totF_len {P Q G n er : Int} {l : List Vt} {ps : List (Int × Int)} (h : totF P Q G n l = (er, ps)) : ps.length ≤ 10 := by
  unfold totF at h
  split at h
  · split at h
    · cases h; simp
    · split at h
      · cases h; simp
      · split at h
        · cases h; simp
        · obtain ⟨rfl, rfl⟩ := Prod.mk.inj h
          simp [totS]; omega
  · cases h; simp
set_option maxRecDepth 100000 in
set_option maxHeartbeats 8000000 in
theorem walk (P Q G : Int) (x : Int) (a : Option Addr) (m c : Nat) (l : List Vt) (w : World) (uP : U64 P) (uQ : U64 Q) (uG : U64 G) (xl : -9223372036854775808 ≤ x) (xu : x ≤ 9223372036854775807) (hl : ShV w a m l) (hc : a = none → c = 0) (hd : m ≤ c) :
    Calls Try.prog 3 #[.agg #[.int .u64 P, .int .u64 Q, .int .u64 G], .int .i64 x, .slice a m c] w fun e w' => e = .returned (.bool true) ∧ Below w.heap.size w w' := by
  have HS := Lib.hid hl
  have HL := Lib.hid hl.len
  obtain ⟨er, ps, ht⟩ : ∃ er ps, totF P Q G x l = (er, ps) := ⟨_, _, rfl⟩
  have HT := Lib.hid ht
  clear hl ht
  have F_g := Lib.hid (Boxed.new w P Q G 24)
  have HBW := Lib.hid (show Below w.heap.size w (w.alloc (.cells #[.int .u64 P, .int .u64 Q, .int .u64 G] 24)) from (Below.refl _ _).alloc (Nat.le_refl _) _)
  go_enter Try.func3, Try.ntmps3
  by_cases h1 : 20 < m ∧ m ≤ 256
  case pos =>
    have d1 : decide ((20 : Int) < (m : Int)) = true := by simp; omega
    have d2 : decide ((m : Int) ≤ 256) = true := by simp; omega
    go_wp2_with fail
    go_ret
    exact ⟨rfl, HBW.out⟩
  case neg =>
    have d0 : ∃ b1 b2 : Bool, decide ((20 : Int) < (m : Int)) = b1 ∧ decide ((m : Int) ≤ 256) = b2 ∧ (b1 && b2) = false := ⟨_, _, rfl, rfl, by
      by_cases h : 20 < m
      · have : decide ((m : Int) ≤ 256) = false := by simp; omega
        rw [this]; simp
      · have : decide ((20 : Int) < (m : Int)) = false := by simp; omega
        rw [this]; simp⟩
    obtain ⟨b1, b2, d1, d2, hbb⟩ := d0
    cases b1 with
    | true =>
      obtain rfl : b2 = false := by simpa using hbb
      clear hbb
      go_wp2_with fail
      clear d1
      go_loopw [7] (fun c7 wr => ∃ i : Nat, i ≤ m ∧ i ≤ 20 ∧ c7 = .int .i64 i ∧ Hid (∀ V, V ∈ l.take i → V.n ≤ 20) ∧ Hid (Boxed wr w.heap.size P Q G) ∧ Hid (Below w.heap.size w wr)) (fun c7 _ => m - (intOf c7).toNat)
      case atStart => exact ⟨0, Nat.zero_le _, Nat.zero_le _, rfl, (fun V hV => by simp at hV), F_g.out, HBW.out⟩
      case round =>
        clear F_g HBW
        obtain ⟨i, hi, hi20, rfl, HA, F_g, HBW⟩ := hrel
        have hi0 : (0 : Int) ≤ (i : Int) := by omega
        by_cases hlt : i < m
        case neg =>
          have H20 := Lib.hid (show 256 < l.length ∨ ∀ V, V ∈ l → V.n ≤ 1000000 from .inr fun V hV => by
            have := HA.out V (by rwa [List.take_of_length_le (by have := HL.out; omega)])
            omega)
          have e1 : decide ((i : Int) < (m : Int)) = false := by simp; omega
          obtain ⟨x0a, x0b, x0c, -⟩ := id F_g.out
          go_wp2_with fail
          clear x0a x0b x0c
          refine (tTotal_any _ uP.1 uQ.1 uG.1 xl xu (HS.out.keep HBW.out) H20.out HT.out).mono ?_
          rintro e w1 ⟨a1, c1, rfl, hs1, -, hb1⟩
          have HS1 := Lib.hid hs1
          replace F_g := Lib.hid (F_g.out.keep hb1)
          replace HBW := Lib.hid (HBW.out.trans (hb1.mono HBW.out.size))
          clear hs1 hb1
          obtain ⟨x0a, x0b, x0c, -⟩ := id F_g.out
          go_wp2_with fail
          clear x0a x0b x0c
          refine (rTotal_any _ uP.1 uQ.1 uG.1 xl xu (HS.out.keep HBW.out) H20.out HT.out).mono ?_
          rintro e w2 ⟨a2, c2, rfl, hs2, -, hb2⟩
          have HS2 := Lib.hid hs2
          replace HS1 := Lib.hid (HS1.out.keep hb2)
          replace HBW := Lib.hid (HBW.out.trans (hb2.mono HBW.out.size))
          clear hs2 hb2 F_g
          go_wp2_with fail
          refine (ssame_any _ HS1.out HS2.out (Nat.le_trans (totF_len HT.out) (by omega))).mono ?_
          rintro e w3 ⟨rfl, hb3⟩
          replace HBW := Lib.hid (HBW.out.trans (hb3.mono HBW.out.size))
          clear hb3
          go_wp2_with fail
          go_ret
          exact ⟨by simp, HBW.out⟩
        case pos =>
          have hi1 : (i : Int) < (m : Int) := by omega
          by_cases h2 : i < 20
          case neg =>
            have H20 := Lib.hid (show 256 < l.length ∨ ∀ V, V ∈ l → V.n ≤ 1000000 from .inl (by have := HL.out; omega))
            have e1 : decide ((i : Int) < (m : Int)) = true := by simp; omega
            have e2 : decide ((i : Int) < 20) = false := by simp; omega
            obtain ⟨x0a, x0b, x0c, -⟩ := id F_g.out
            go_wp2_with fail
            clear x0a x0b x0c
            refine (tTotal_any _ uP.1 uQ.1 uG.1 xl xu (HS.out.keep HBW.out) H20.out HT.out).mono ?_
            rintro e w1 ⟨a1, c1, rfl, hs1, -, hb1⟩
            have HS1 := Lib.hid hs1
            replace F_g := Lib.hid (F_g.out.keep hb1)
            replace HBW := Lib.hid (HBW.out.trans (hb1.mono HBW.out.size))
            clear hs1 hb1
            obtain ⟨x0a, x0b, x0c, -⟩ := id F_g.out
            go_wp2_with fail
            clear x0a x0b x0c
            refine (rTotal_any _ uP.1 uQ.1 uG.1 xl xu (HS.out.keep HBW.out) H20.out HT.out).mono ?_
            rintro e w2 ⟨a2, c2, rfl, hs2, -, hb2⟩
            have HS2 := Lib.hid hs2
            replace HS1 := Lib.hid (HS1.out.keep hb2)
            replace HBW := Lib.hid (HBW.out.trans (hb2.mono HBW.out.size))
            clear hs2 hb2 F_g
            go_wp2_with fail
            refine (ssame_any _ HS1.out HS2.out (Nat.le_trans (totF_len HT.out) (by omega))).mono ?_
            rintro e w3 ⟨rfl, hb3⟩
            replace HBW := Lib.hid (HBW.out.trans (hb3.mono HBW.out.size))
            clear hb3
            go_wp2_with fail
            go_ret
            exact ⟨by simp, HBW.out⟩
          case pos =>
            have e2 : decide ((i : Int) < 20) = true := by simp; omega
            have hwi : IntKind.i64.wrap ((i : Int) + 1) = (i : Int) + 1 := IntWalk.i64_in _ (by omega)
            have c26 : Try.prog.cellsOf 33 = 11 := by kernel_rfl
            obtain ⟨s, o, V, hsa, hV, hc0, hin⟩ := (HS.out.keep HBW.out).at i hlt
            have HV := Lib.hid hV
            obtain ⟨-, hc0, hc1, hc2, hc3, hc4, hc5, hc6, hc7, hc8, hc9, hc10⟩ := hc0
            subst hsa
            clear hV hin
            go_wp2_with fail
            clear hc0 hc1 hc2 hc3 hc4 hc5 hc6 hc7 hc8 hc9 hc10
            refine (greatV_any (V := V) _).mono ?_
            rintro e w1 ⟨rfl, hb1⟩
            replace F_g := Lib.hid (F_g.out.keep hb1)
            replace HBW := Lib.hid (HBW.out.trans (hb1.mono HBW.out.size))
            clear hb1
            cases hg : greatV V with
            | true =>
              clear hg
              go_wp2_with fail
              go_ret
              exact ⟨rfl, HBW.out⟩
            | false =>
              have HA2 := Lib.hid (show ∀ U, U ∈ l.take (i + 1) → U.n ≤ 20 from fun U hU => by
                rw [List.take_add_one, HV.out, List.mem_append] at hU
                rcases hU with hU | hU
                · exact HA.out U hU
                · simp at hU
                  subst hU
                  simp [greatV] at hg
                  omega)
              clear hg
              go_wp2_with fail
              go_roundw
              case rel => exact ⟨i + 1, by omega, by omega, by go_num, HA2.out, F_g.out, HBW.out⟩
              case measure => simp [intOf] <;> omega
    | false =>
      clear hbb d2
      go_wp2_with fail
      clear d1
      go_loopw [7] (fun c7 wr => ∃ i : Nat, i ≤ m ∧ i ≤ 20 ∧ c7 = .int .i64 i ∧ Hid (∀ V, V ∈ l.take i → V.n ≤ 20) ∧ Hid (Boxed wr w.heap.size P Q G) ∧ Hid (Below w.heap.size w wr)) (fun c7 _ => m - (intOf c7).toNat)
      case atStart => exact ⟨0, Nat.zero_le _, Nat.zero_le _, rfl, (fun V hV => by simp at hV), F_g.out, HBW.out⟩
      case round =>
        clear F_g HBW
        obtain ⟨i, hi, hi20, rfl, HA, F_g, HBW⟩ := hrel
        have hi0 : (0 : Int) ≤ (i : Int) := by omega
        by_cases hlt : i < m
        case neg =>
          have H20 := Lib.hid (show 256 < l.length ∨ ∀ V, V ∈ l → V.n ≤ 1000000 from .inr fun V hV => by
            have := HA.out V (by rwa [List.take_of_length_le (by have := HL.out; omega)])
            omega)
          have e1 : decide ((i : Int) < (m : Int)) = false := by simp; omega
          obtain ⟨x0a, x0b, x0c, -⟩ := id F_g.out
          go_wp2_with fail
          clear x0a x0b x0c
          refine (tTotal_any _ uP.1 uQ.1 uG.1 xl xu (HS.out.keep HBW.out) H20.out HT.out).mono ?_
          rintro e w1 ⟨a1, c1, rfl, hs1, -, hb1⟩
          have HS1 := Lib.hid hs1
          replace F_g := Lib.hid (F_g.out.keep hb1)
          replace HBW := Lib.hid (HBW.out.trans (hb1.mono HBW.out.size))
          clear hs1 hb1
          obtain ⟨x0a, x0b, x0c, -⟩ := id F_g.out
          go_wp2_with fail
          clear x0a x0b x0c
          refine (rTotal_any _ uP.1 uQ.1 uG.1 xl xu (HS.out.keep HBW.out) H20.out HT.out).mono ?_
          rintro e w2 ⟨a2, c2, rfl, hs2, -, hb2⟩
          have HS2 := Lib.hid hs2
          replace HS1 := Lib.hid (HS1.out.keep hb2)
          replace HBW := Lib.hid (HBW.out.trans (hb2.mono HBW.out.size))
          clear hs2 hb2 F_g
          go_wp2_with fail
          refine (ssame_any _ HS1.out HS2.out (Nat.le_trans (totF_len HT.out) (by omega))).mono ?_
          rintro e w3 ⟨rfl, hb3⟩
          replace HBW := Lib.hid (HBW.out.trans (hb3.mono HBW.out.size))
          clear hb3
          go_wp2_with fail
          go_ret
          exact ⟨by simp, HBW.out⟩
        case pos =>
          have hi1 : (i : Int) < (m : Int) := by omega
          by_cases h2 : i < 20
          case neg =>
            have H20 := Lib.hid (show 256 < l.length ∨ ∀ V, V ∈ l → V.n ≤ 1000000 from .inl (by have := HL.out; omega))
            have e1 : decide ((i : Int) < (m : Int)) = true := by simp; omega
            have e2 : decide ((i : Int) < 20) = false := by simp; omega
            obtain ⟨x0a, x0b, x0c, -⟩ := id F_g.out
            go_wp2_with fail
            clear x0a x0b x0c
            refine (tTotal_any _ uP.1 uQ.1 uG.1 xl xu (HS.out.keep HBW.out) H20.out HT.out).mono ?_
            rintro e w1 ⟨a1, c1, rfl, hs1, -, hb1⟩
            have HS1 := Lib.hid hs1
            replace F_g := Lib.hid (F_g.out.keep hb1)
            replace HBW := Lib.hid (HBW.out.trans (hb1.mono HBW.out.size))
            clear hs1 hb1
            obtain ⟨x0a, x0b, x0c, -⟩ := id F_g.out
            go_wp2_with fail
            clear x0a x0b x0c
            refine (rTotal_any _ uP.1 uQ.1 uG.1 xl xu (HS.out.keep HBW.out) H20.out HT.out).mono ?_
            rintro e w2 ⟨a2, c2, rfl, hs2, -, hb2⟩
            have HS2 := Lib.hid hs2
            replace HS1 := Lib.hid (HS1.out.keep hb2)
            replace HBW := Lib.hid (HBW.out.trans (hb2.mono HBW.out.size))
            clear hs2 hb2 F_g
            go_wp2_with fail
            refine (ssame_any _ HS1.out HS2.out (Nat.le_trans (totF_len HT.out) (by omega))).mono ?_
            rintro e w3 ⟨rfl, hb3⟩
            replace HBW := Lib.hid (HBW.out.trans (hb3.mono HBW.out.size))
            clear hb3
            go_wp2_with fail
            go_ret
            exact ⟨by simp, HBW.out⟩
          case pos =>
            have e2 : decide ((i : Int) < 20) = true := by simp; omega
            have hwi : IntKind.i64.wrap ((i : Int) + 1) = (i : Int) + 1 := IntWalk.i64_in _ (by omega)
            have c26 : Try.prog.cellsOf 33 = 11 := by kernel_rfl
            obtain ⟨s, o, V, hsa, hV, hc0, hin⟩ := (HS.out.keep HBW.out).at i hlt
            have HV := Lib.hid hV
            obtain ⟨-, hc0, hc1, hc2, hc3, hc4, hc5, hc6, hc7, hc8, hc9, hc10⟩ := hc0
            subst hsa
            clear hV hin
            go_wp2_with fail
            clear hc0 hc1 hc2 hc3 hc4 hc5 hc6 hc7 hc8 hc9 hc10
            refine (greatV_any (V := V) _).mono ?_
            rintro e w1 ⟨rfl, hb1⟩
            replace F_g := Lib.hid (F_g.out.keep hb1)
            replace HBW := Lib.hid (HBW.out.trans (hb1.mono HBW.out.size))
            clear hb1
            cases hg : greatV V with
            | true =>
              clear hg
              go_wp2_with fail
              go_ret
              exact ⟨rfl, HBW.out⟩
            | false =>
              have HA2 := Lib.hid (show ∀ U, U ∈ l.take (i + 1) → U.n ≤ 20 from fun U hU => by
                rw [List.take_add_one, HV.out, List.mem_append] at hU
                rcases hU with hU | hU
                · exact HA.out U hU
                · simp at hU
                  subst hU
                  simp [greatV] at hg
                  omega)
              clear hg
              go_wp2_with fail
              go_roundw
              case rel => exact ⟨i + 1, by omega, by omega, by go_num, HA2.out, F_g.out, HBW.out⟩
              case measure => simp [intOf] <;> omega


set_option maxRecDepth 100000 in
theorem lifted (os : Os) (started : os.Started) (H : Type) (enc : TypeId × Value → H) :
    ReturnsInHanded {} Try.checked os 3 .any (Rows.tallyTotalsSpec.pre6 enc Try.prog Try.f3 Rows.tallyTotalsRow.domain false) (Rows.tallyTotalsSpec.post enc Try.prog Try.f3 false true false false) := by
  refine returnsInHanded_of_change (C := Try.checked) own started (by kernel_rfl) Try.func3
    (ChangeSpec.witness6 (enc := enc) (C := Try.checked) false ⟨#[], #[.agg #[.int .u64 0, .int .u64 0, .int .u64 0], .int .i64 0, .slice none 0 0], []⟩ 8 (by kernel_rfl) (by kernel_rfl) (by kernel_rfl) (by kernel_rfl)) ?_
  intro W base args ds gs before hval0 hW _ _
  have hval : ∀ (j : Nat) t v, Try.f3.params[j]? = some t → args[j]? = some v → Value.okWide Try.prog W .any base t v := hval0
  have hW' := hW
  obtain ⟨p, q, hA0, hV, rfl, hfz, hnd⟩ := hW
  have hA : DataW.TrodAll enc Try.prog W 0 (fun _ => true) true Try.f3.params.toList args.toList ds p := hA0
  rw [Try.params3] at hA hval
  have hK := hA
  obtain ⟨v0, vs0, d0, ds0, p0, q0, hargs, rfl, rfl, h0, r0⟩ := trodAll_cons hA
  obtain ⟨v1, vs1, d1, ds1, p1, q1, rfl, rfl, rfl, h1, r1⟩ := trodAll_cons r0
  obtain ⟨v2, vs2, d2, ds2, p2, q2, rfl, rfl, rfl, h2, r2⟩ := trodAll_cons r1
  obtain ⟨rfl, rfl, rfl⟩ := trodAll_nil r2
  obtain rfl : args = #[v0, v1, v2] := by cases args; simp_all
  obtain ⟨rfl, rfl⟩ := trodVars_none hV
  obtain ⟨P, Q, G, rfl, uP, uQ, uG⟩ := open_group (hval 0 24 v0 rfl rfl) h0
  obtain ⟨x, rfl, xl, xu⟩ := open_i64 (hval 1 3 v1 rfl rfl) h1
  obtain ⟨a, n, c, l, rfl, hl, hc, hd⟩ := open_votes (hval 2 25 v2 rfl rfl) h2
  clear hA0 hval0
  refine (walk P Q G x a n c l W uP uQ uG xl xu hl hc hd).mono fun e W' ⟨he, bel⟩ => ?_
  subst he
  exact ⟨_, rfl, _, _, _, [], _, [], hW', trodAll_mk1 (shut_bool Try.underlying4 _), trodAll_stays laidOut (by kernel_rfl) hK bel, rfl, bel.frame _, fun h => by cases h⟩

theorem over : Rows.tallyTotalsRow.holds Try.pinned (OpenSpec.ofChange Rows.tallyTotalsSpec) :=
  OpenClaim.holds_of_wide 3 Try.f3 rfl rfl rfl rfl rfl rfl rfl ⟨rfl, rfl, rfl, rfl, rfl⟩ rfl rfl rfl rfl rfl (by kernel_rfl) Try.func3 (by kernel_rfl)
    (of_decide_eq_true (by kernel_rfl)) (by unfold Func.isWrapper; first | (rw [if_pos (by decide +kernel)]; kernel_rfl) | (rw [if_neg (by decide +kernel)]; exact ⟨rfl, rfl⟩))
    (fun os started H enc _ => lifted os started H enc)

theorem proved : Rows.TallyTotalsSaid := over
#print axioms proved
end Go.Proofs.Ytembepajnigfiaa.lawTotals
