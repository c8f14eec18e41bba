/- SchnorrAccepts: the statement: for every input the law returns true, and the arguments read as before. -/
import Derived.Test.YtanlnhjjdiaphaaDoorCard
import Derived.Test.YtanlnhjjdiaphaaDoorAux31
import Derived.Test.YtanlnhjjdiaphaaDoorLaw31
namespace Go.Proofs.YtanlnhjjdiaphaaDoor.lawAccepts
open Go Sha Go.ChangeShapes Go.WideShapes Go.ChangeAt Go.RowKit Num
set_option linter.unusedSimpArgs false
set_option linter.unusedVariables false

set_option maxRecDepth 100000 in
set_option maxHeartbeats 12800000 in
theorem walk (P Q G x : Int) (tx : Option Addr) (n cp : Nat) (T : List Int) (w : World) (uP : U64 P) (uQ : U64 Q) (uG : U64 G) (ux : U64 x) (ht : ShI .u8 w tx n T) (hb : ByteL T) (hz : tx = none → cp = 0) (hnc : n ≤ cp) (hT : Tabs w) :
    Calls Tryd.prog 6 #[.agg #[.int .u64 P, .int .u64 Q, .int .u64 G], .int .u64 x, .slice tx n cp] w fun e w' => e = .returned (.bool true) ∧ Below w.heap.size w w' := by
  have hP := uP.1
  have hQ := uQ.1
  have hG := uG.1
  have hx := ux.1
  have HT := Lib.hid (show Txt w tx n T from ⟨hT, ht, hb⟩)
  clear ht hb hT hz hnc
  by_cases hv : Valid P Q G
  case neg =>
    have HV := Lib.hid (show ValidS P Q G 300 from .inr ⟨hv, rfl⟩)
    clear hv
    have F_g := Lib.hid (show Boxed (w.alloc (.cells #[.int .u64 P, .int .u64 Q, .int .u64 G] 24)) (w.heap.size) P Q G from Boxed.at _ P Q G _ (w.heap.size) (by simp))
    have HBW := Lib.hid (show Below w.heap.size w (w.alloc (.cells #[.int .u64 P, .int .u64 Q, .int .u64 G] 24)) from (Below.refl _ _).alloc (by simp <;> omega) _)
    go_enter Tryd.func6, Tryd.ntmps6
    obtain ⟨x0a, x0b, x0c, -⟩ := id F_g.out
    go_wp2_with fail
    clear x0a x0b x0c
    refine (alive_yes _).mono ?_
    rintro e w1 ⟨rfl, hb1⟩
    replace F_g := Lib.hid (F_g.out.keep hb1)
    replace HBW := Lib.hid (HBW.out.trans (hb1.mono HBW.out.size))
    clear hb1
    obtain ⟨x0a, x0b, x0c, -⟩ := id F_g.out
    go_wp2_with fail
    clear x0a x0b x0c
    refine (gcheck_any P Q G 300 _ hP hQ hG HV.out).mono ?_
    rintro e w2 ⟨rfl, hb2⟩
    replace F_g := Lib.hid (F_g.out.keep hb2)
    replace HBW := Lib.hid (HBW.out.trans (hb2.mono HBW.out.size))
    clear hb2
    obtain ⟨x0a, x0b, x0c, -⟩ := id F_g.out
    go_wp2_with fail
    go_ret
    exact ⟨rfl, HBW.out⟩
  case pos =>
    have HV := Lib.hid (show ValidS P Q G 0 from .inl ⟨hv, rfl⟩)
    have HG := Lib.hid hv.grp
    have HH := Lib.hid hv.has
    obtain ⟨p5, p3, _, pq, g2, gP⟩ := id hv.1
    have q3 : Q < 1073741824 := by omega
    clear hv pq
    by_cases hx1 : 1 ≤ x
    case neg =>
      have hx_ : x < 1 := by omega
      clear hx1
      have F_g := Lib.hid (show Boxed (w.alloc (.cells #[.int .u64 P, .int .u64 Q, .int .u64 G] 24)) (w.heap.size) P Q G from Boxed.at _ P Q G _ (w.heap.size) (by simp))
      have HBW := Lib.hid (show Below w.heap.size w (w.alloc (.cells #[.int .u64 P, .int .u64 Q, .int .u64 G] 24)) from (Below.refl _ _).alloc (by simp <;> omega) _)
      go_enter Tryd.func6, Tryd.ntmps6
      obtain ⟨x0a, x0b, x0c, -⟩ := id F_g.out
      go_wp2_with fail
      clear x0a x0b x0c
      refine (alive_yes _).mono ?_
      rintro e w1 ⟨rfl, hb1⟩
      replace F_g := Lib.hid (F_g.out.keep hb1)
      replace HBW := Lib.hid (HBW.out.trans (hb1.mono HBW.out.size))
      clear hb1
      obtain ⟨x0a, x0b, x0c, -⟩ := id F_g.out
      go_wp2_with fail
      clear x0a x0b x0c
      refine (gcheck_any P Q G 0 _ hP hQ hG HV.out).mono ?_
      rintro e w2 ⟨rfl, hb2⟩
      replace F_g := Lib.hid (F_g.out.keep hb2)
      replace HBW := Lib.hid (HBW.out.trans (hb2.mono HBW.out.size))
      clear hb2
      obtain ⟨x0a, x0b, x0c, -⟩ := id F_g.out
      go_wp2_with fail
      go_ret
      exact ⟨rfl, HBW.out⟩
    case pos =>
      have hx1_ := hx1
      clear hx1
      by_cases hxQ : x < Q
      case neg =>
        have xQ_ : Q ≤ x := by omega
        clear hxQ
        have F_g := Lib.hid (show Boxed (w.alloc (.cells #[.int .u64 P, .int .u64 Q, .int .u64 G] 24)) (w.heap.size) P Q G from Boxed.at _ P Q G _ (w.heap.size) (by simp))
        have HBW := Lib.hid (show Below w.heap.size w (w.alloc (.cells #[.int .u64 P, .int .u64 Q, .int .u64 G] 24)) from (Below.refl _ _).alloc (by simp <;> omega) _)
        go_enter Tryd.func6, Tryd.ntmps6
        obtain ⟨x0a, x0b, x0c, -⟩ := id F_g.out
        go_wp2_with fail
        clear x0a x0b x0c
        refine (alive_yes _).mono ?_
        rintro e w1 ⟨rfl, hb1⟩
        replace F_g := Lib.hid (F_g.out.keep hb1)
        replace HBW := Lib.hid (HBW.out.trans (hb1.mono HBW.out.size))
        clear hb1
        obtain ⟨x0a, x0b, x0c, -⟩ := id F_g.out
        go_wp2_with fail
        clear x0a x0b x0c
        refine (gcheck_any P Q G 0 _ hP hQ hG HV.out).mono ?_
        rintro e w2 ⟨rfl, hb2⟩
        replace F_g := Lib.hid (F_g.out.keep hb2)
        replace HBW := Lib.hid (HBW.out.trans (hb2.mono HBW.out.size))
        clear hb2
        obtain ⟨x0a, x0b, x0c, -⟩ := id F_g.out
        go_wp2_with fail
        go_ret
        exact ⟨rfl, HBW.out⟩
      case pos =>
        have xQ := hxQ
        clear hxQ
        by_cases hn : n ≤ 8000
        case neg =>
          have hd : decide ((8000 : Int) < (n : Int)) = true := by simp; omega
          have hdn : decide (8000 < n) = true := by simp; omega
          clear hn
          have F_g := Lib.hid (show Boxed (w.alloc (.cells #[.int .u64 P, .int .u64 Q, .int .u64 G] 24)) (w.heap.size) P Q G from Boxed.at _ P Q G _ (w.heap.size) (by simp))
          have HBW := Lib.hid (show Below w.heap.size w (w.alloc (.cells #[.int .u64 P, .int .u64 Q, .int .u64 G] 24)) from (Below.refl _ _).alloc (by simp <;> omega) _)
          go_enter Tryd.func6, Tryd.ntmps6
          obtain ⟨x0a, x0b, x0c, -⟩ := id F_g.out
          go_wp2_with fail
          clear x0a x0b x0c
          refine (alive_yes _).mono ?_
          rintro e w1 ⟨rfl, hb1⟩
          replace F_g := Lib.hid (F_g.out.keep hb1)
          replace HBW := Lib.hid (HBW.out.trans (hb1.mono HBW.out.size))
          clear hb1
          obtain ⟨x0a, x0b, x0c, -⟩ := id F_g.out
          go_wp2_with fail
          clear x0a x0b x0c
          refine (gcheck_any P Q G 0 _ hP hQ hG HV.out).mono ?_
          rintro e w2 ⟨rfl, hb2⟩
          replace F_g := Lib.hid (F_g.out.keep hb2)
          replace HBW := Lib.hid (HBW.out.trans (hb2.mono HBW.out.size))
          clear hb2
          obtain ⟨x0a, x0b, x0c, -⟩ := id F_g.out
          go_wp2_with fail
          go_ret
          exact ⟨rfl, HBW.out⟩
        case pos =>
          have hd : decide ((8000 : Int) < (n : Int)) = false := by simp; omega
          have hdn : decide (8000 < n) = false := by simp; omega
          have x0 : 0 ≤ x := hx
          obtain ⟨k, hk⟩ : ∃ k, noV Q x T = k := ⟨_, rfl⟩
          obtain ⟨y, hy⟩ : ∃ y, powm G x P = y := ⟨_, rfl⟩
          obtain ⟨R, hR⟩ : ∃ R, sgR P Q G x T = R := ⟨_, rfl⟩
          obtain ⟨S, hS⟩ : ∃ S, sgS P Q G x T = S := ⟨_, rfl⟩
          have hRk : powm G k P = R := by rw [← hR, sgR, hk]
          obtain ⟨h_, hh⟩ : ∃ h_, chV Q [y, R] T = h_ := ⟨_, rfl⟩
          have hSk : (k + h_ * x % Q) % Q = S := by rw [← hS, sgS, hk, hy, hR, hh]
          obtain ⟨k0, kQ⟩ : 0 ≤ k ∧ k < Q := by rw [← hk]; exact noV_range (by omega) _ _
          obtain ⟨h0, hQQ⟩ : 0 ≤ h_ ∧ h_ < Q := by rw [← hh]; exact chV_range (by omega) _ _
          have my : Mem P Q y := by rw [← hy]; exact HG.out.mem_pow HG.out.mem_g x
          have mr : Mem P Q R := by rw [← hRk]; exact HG.out.mem_pow HG.out.mem_g k
          have S0 : 0 ≤ S := by rw [← hSk]; exact Int.emod_nonneg _ (by omega)
          have SQ : S < Q := by rw [← hSk]; exact Int.emod_lt_of_pos _ (by omega)
          have RP : R < P := mr.2.1
          have UY := Lib.hid (U64.of_lt (Int.le_of_lt my.1) (by have := my.2.1; omega))
          have UR := Lib.hid (U64.of_lt (Int.le_of_lt mr.1) (by omega))
          have UX := Lib.hid ux
          have H1 := Lib.hid (show RetS (keyS P Q G x) (powm G x P) y 0 from .inl ⟨keyS_ok HH.out xQ (by omega), hy.symm, rfl⟩)
          have H2 := Lib.hid (show RetSig (lgS (keyS P Q G x) n) (sgR P Q G x T) (sgS P Q G x T) R S 0 from .inl ⟨lgS_ok (keyS_ok HH.out xQ (by omega)) hn, hR.symm, hS.symm, rfl⟩)
          have H3 := Lib.hid (show RetB (lgS (askS P Q G [S] [y, R]) n) (vfP P Q G y R S T) true 0 from .inl ⟨lgS_ok (askS_ok HH.out (by simpa using SQ) (by simpa using ⟨my.2.1, mr.2.1⟩)) hn, by
            refine ⟨fun _ => ⟨my, mr, ?_⟩, fun _ => rfl⟩
            rw [hh, ← hRk, ← hy]
            exact resp_holds HG.out x0 k0 h0 hSk, rfl⟩)
          clear hk hy hR hS hRk hh hSk my mr ux
          have F_g := Lib.hid (show Boxed (w.alloc (.cells #[.int .u64 P, .int .u64 Q, .int .u64 G] 24)) (w.heap.size) P Q G from Boxed.at _ P Q G _ (w.heap.size) (by simp))
          have HBW := Lib.hid (show Below w.heap.size w (w.alloc (.cells #[.int .u64 P, .int .u64 Q, .int .u64 G] 24)) from (Below.refl _ _).alloc (by simp <;> omega) _)
          go_enter Tryd.func6, Tryd.ntmps6
          obtain ⟨x0a, x0b, x0c, -⟩ := id F_g.out
          go_wp2_with fail
          clear x0a x0b x0c
          refine (alive_yes _).mono ?_
          rintro e w1 ⟨rfl, hb1⟩
          replace F_g := Lib.hid (F_g.out.keep hb1)
          replace HBW := Lib.hid (HBW.out.trans (hb1.mono HBW.out.size))
          clear hb1
          obtain ⟨x0a, x0b, x0c, -⟩ := id F_g.out
          go_wp2_with fail
          clear x0a x0b x0c
          refine (gcheck_any P Q G 0 _ hP hQ hG HV.out).mono ?_
          rintro e w2 ⟨rfl, hb2⟩
          replace F_g := Lib.hid (F_g.out.keep hb2)
          replace HBW := Lib.hid (HBW.out.trans (hb2.mono HBW.out.size))
          clear hb2
          obtain ⟨x0a, x0b, x0c, -⟩ := id F_g.out
          go_wp2_with fail
          clear x0a x0b x0c
          refine (spk_any _ hP hQ hG UX.out H1.out).mono ?_
          rintro e w3 ⟨rfl, hb3⟩
          replace F_g := Lib.hid (F_g.out.keep hb3)
          replace HBW := Lib.hid (HBW.out.trans (hb3.mono HBW.out.size))
          clear hb3
          obtain ⟨x0a, x0b, x0c, -⟩ := id F_g.out
          go_wp2_with fail
          clear x0a x0b x0c
          refine (ssign_any _ (HT.out.keep HBW.out) hP hQ hG UX.out (by omega) H2.out).mono ?_
          rintro e w4 ⟨rfl, hb4⟩
          replace F_g := Lib.hid (F_g.out.keep hb4)
          replace HBW := Lib.hid (HBW.out.trans (hb4.mono HBW.out.size))
          clear hb4
          have hzg := F_g.out.lt
          obtain ⟨x0a, x0b, x0c, -⟩ := id F_g.out
          go_wp2_with fail
          clear hzg
          replace F_g := Lib.hid (F_g.out.alloc (.cells #[.int .u64 R, .int .u64 S] 27))
          have F_sg := Lib.hid (Pair.new w4 R S 27)
          replace HBW := Lib.hid (HBW.out.alloc HBW.out.size (.cells #[.int .u64 R, .int .u64 S] 27))
          clear x0a x0b x0c
          refine (sverify_any _ (HT.out.keep HBW.out) hP hQ hG UY.out UR.out S0 (by omega) H3.out).mono ?_
          rintro e w5 ⟨rfl, hb5⟩
          replace F_g := Lib.hid (F_g.out.keep hb5)
          replace F_sg := Lib.hid (F_sg.out.keep hb5)
          replace HBW := Lib.hid (HBW.out.trans (hb5.mono HBW.out.size))
          clear hb5
          obtain ⟨x0a, x0b, x0c, -⟩ := id F_g.out
          obtain ⟨x1a, x1b, x1c, x1d, -⟩ := id F_sg.out
          go_wp2_with fail
          go_ret
          exact ⟨rfl, HBW.out⟩


set_option maxRecDepth 100000 in
theorem lifted (os : Os) (started : os.Started) (H : Type) (enc : TypeId × Value → H) :
    ReturnsInHanded {} Tryd.checked os 6 .any (fun w args => (Rows.schnorrAcceptsSpec.pre enc Tryd.prog Tryd.f6 [] false w args ∧ laidMetH Tryd.prog laidL w) ∧ sizedMet enc Tryd.prog Tryd.f6 (OpenSpec.ofChange Rows.schnorrAcceptsSpec) false w args) (Rows.schnorrAcceptsSpec.post enc Tryd.prog Tryd.f6 false true false false) := by
  refine returnsInHanded_of_change_and (C := Tryd.checked) (X := fun w _ => laidMetH Tryd.prog laidL w) (fun _ _ _ hh h => h.of_heap hh) own started (by kernel_rfl) Tryd.func6
    (ChangeSpec.witness_shaped (enc := enc) (C := Tryd.checked) (os := os) (X := fun w _ => laidMetH Tryd.prog laidL w) false (World.doorLaid Tryd.prog 19 os) #[.agg #[.int .u64 0, .int .u64 0, .int .u64 0], .int .u64 0, .slice none 0 0] 8 rfl (World.shaped_of_RefB (by kernel_rfl) (by kernel_rfl)) (by kernel_rfl) (by kernel_rfl) (by kernel_rfl) (door_met os _)) ?_
  intro W base args ds gs before hval0 hW _ _ hL _
  have hT := tabs_of_laid hL
  clear hL
  have hval : ∀ (j : Nat) t v, Tryd.f6.params[j]? = some t → args[j]? = some v → Value.okWide Tryd.prog W .any base t v := hval0
  have hW' := hW
  obtain ⟨p, q, hA0, hV, rfl, hfz, hnd⟩ := hW
  have hA : DataW.TrodAll enc Tryd.prog W 0 (fun _ => true) true Tryd.f6.params.toList args.toList ds p := hA0
  rw [Tryd.params6] at hA hval
  have hK := hA
  obtain ⟨v0, vs0, d0, ds0, p0, q0, hargs, rfl, rfl, h0, r0⟩ := trodAll_cons hA
  obtain ⟨v1, vs1, d1, ds1, p1, q1, rfl, rfl, rfl, h1, r1⟩ := trodAll_cons r0
  obtain ⟨v2, vs2, d2, ds2, p2, q2, rfl, rfl, rfl, h2, r2⟩ := trodAll_cons r1
  obtain ⟨rfl, rfl, rfl⟩ := trodAll_nil r2
  obtain rfl : args = #[v0, v1, v2] := by cases args; simp_all
  obtain ⟨rfl, rfl⟩ := trodVars_none hV
  obtain ⟨P, Q, G, rfl, uP, uQ, uG⟩ := open_group (hval 0 24 v0 rfl rfl) h0
  obtain ⟨x, rfl, ux⟩ := open_u64 (hval 1 22 v1 rfl rfl) h1
  obtain ⟨tx, n, cp, T, rfl, ht, hb, hz, hnc⟩ := open_bytes (hval 2 25 v2 rfl rfl) h2
  clear hA0 hval0
  refine (walk P Q G x tx n cp T W uP uQ uG ux ht hb hz hnc hT).mono fun e W' ⟨he, bel⟩ => ?_
  subst he
  exact ⟨_, rfl, _, _, _, [], _, [], hW', trodAll_mk1 (shut_bool Tryd.underlying4 _), trodAll_stays laidOut (by kernel_rfl) hK bel, rfl, bel.frame _, fun h => by cases h⟩

theorem over : Rows.schnorrAcceptsRow.holds Tryd.pinned (OpenSpec.ofChange Rows.schnorrAcceptsSpec) :=
  OpenClaim.holds_of_wide 6 Tryd.f6 rfl rfl rfl rfl rfl rfl rfl ⟨rfl, rfl, rfl, rfl, rfl⟩ rfl rfl rfl rfl rfl (by kernel_rfl) Tryd.func6 (by kernel_rfl)
    (of_decide_eq_true (by kernel_rfl)) (by unfold Func.isWrapper; first | (rw [if_pos (by decide +kernel)]; kernel_rfl) | (rw [if_neg (by decide +kernel)]; exact ⟨rfl, rfl⟩))
    (fun os started H enc _ => lifted os started H enc)

theorem proved : Rows.SchnorrAcceptsCardSaid :=
  Claim7.holds_tied_plain_at .later [] [.data, .data] true (true, "1347232924b66631dc1a67d5bf2d8748b67dbe22a221f01b9e1f88b90c98754e") false
    over (fun _ h => by cases h) (by kernel_rfl) (fun _ h => by cases h) schnorrAccepts_row_tie rfl ⟨rfl, rfl⟩ (by kernel_rfl) rfl
    (fun f fn hf hfn => by
      obtain rfl : f = 6 := Option.some.inj ((show Tryd.prog.funcNamed "suffrage/suffragelaw31.SchnorrAccepts" = some 6 by kernel_rfl).symm.trans hf) |>.symm
      obtain rfl : fn = Tryd.f6 := (Option.some.inj (Tryd.func6.symm.trans hfn)).symm
      exact ⟨by kernel_rfl, fun j t ht => by
        rw [Tryd.params6] at ht
        have hm : t ∈ ([24, 22, 25] : List TypeId) := by simpa using Array.mem_of_getElem? ht
        have hall : (([24, 22, 25] : List TypeId).all fun u => !Tryd.prog.wantsStandIn u) = true := by kernel_rfl
        exact (show Tryd.prog.wantsStandIn t = false by simpa using List.all_eq_true.1 hall t hm)⟩)
    (by kernel_rfl)
#print axioms proved
end Go.Proofs.YtanlnhjjdiaphaaDoor.lawAccepts
