/- ShamirRaises: the statement: for every input the law returns true, and the arguments read as before. -/
import Derived.Test.YtjfaaicbojnpaaaShJ
import Derived.Test.YtjfaaicbojnpaaaGen
import Derived.Test.YtjfaaicbojnpaaaRows
namespace Go.Proofs.Ytjfaaicbojnpaaa.lawRaises
open Go.ChangeShapes Go.WideShapes Go.ChangeAt Go.RowKit Num
set_option linter.unusedSimpArgs false
set_option linter.unusedVariables false

/-- The powers of a number. -/
def pows (P y : Int) (zs : List Int) : List Int := zs.map fun z => powm y z P
theorem pows_len (P y : Int) (zs : List Int) : (pows P y zs).length = zs.length := by simp [pows]
theorem pows_snoc (P y : Int) (zs : List Int) (k : Nat) (h : k < zs.length) : pows P y (zs.take (k + 1)) = pows P y (zs.take k) ++ [powm y (zs.getD k 0) P] := by
  rw [List.take_succ_eq_append_getElem h, pows, List.map_append, getD_at h]; rfl
theorem pows_u {P y : Int} {zs : List Int} (hP : 0 < P) (hP2 : P < 18446744073709551616) : ∀ x, x ∈ pows P y zs → U64 x := fun x hx => by
  rw [pows, List.mem_map] at hx
  obtain ⟨z, -, rfl⟩ := hx
  have h1 := powm_nonneg (a := y) (x := z) hP
  have h2 := powm_lt (a := y) (x := z) hP
  exact ⟨h1, by omega⟩
theorem own_at {W : World} {n₀ k : Nat} {v : Value} {xs : List Int} (h : OwnU W n₀ v xs) (hk : xs.length = k) : W.ownsRow n₀ 22 1 v k (xs.map (Value.int IntKind.u64)) := by rw [← hk]; exact h
theorem raise_pow {P Q G y : Int} (g : Grp P Q G) (hy : Mem P Q y) {ws zs : List Int} (hw : ∀ w, w ∈ ws → 0 ≤ w) (hz : ∀ z, z ∈ zs → 0 ≤ z) (hl : ws.length = zs.length) : ∀ k, k ≤ zs.length → raiseP P ws (pows P y zs) k = powm y (joinP Q ws zs k) P
  | 0, _ => by
    show (1 : Int) = powm y 0 P
    rw [powm_zero, g.one]
  | k + 1, hk => by
    have q2 := g.pQ.1
    have ih := raise_pow g hy hw hz hl k (by omega)
    have hlt : k < zs.length := by omega
    have e2 : (pows P y zs).getD k 0 = powm y (zs.getD k 0) P := by
      rw [getD_at (by rw [pows_len]; exact hlt), getD_at hlt]; simp [pows]
    have hz0 : 0 ≤ zs.getD k 0 := by rw [getD_at hlt]; exact hz _ (List.getElem_mem hlt)
    have hw0 : 0 ≤ ws.getD k 0 := by rw [getD_at (by omega)]; exact hw _ (List.getElem_mem (by omega))
    show raiseP P ws (pows P y zs) k * powm ((pows P y zs).getD k 0) (ws.getD k 0) P % P = powm y ((joinP Q ws zs k + ws.getD k 0 * zs.getD k 0 % Q) % Q) P
    rw [ih, e2]
    generalize zs.getD k 0 = z at hz0
    generalize ws.getD k 0 = v at hw0
    have a0 := (joinP_range (show 0 < Q by omega) ws zs k).1
    rw [← powm_mul y P hz0 hw0, ← powm_add y P a0 (Int.mul_nonneg hz0 hw0), Int.mul_comm z v]
    refine g.period_cg hy (Int.add_nonneg a0 (Int.mul_nonneg hw0 hz0)) (Int.emod_nonneg _ (by omega)) ?_
    exact ((cg_emod _ _).trans ((Cg.refl _ _).add (cg_emod _ _))).symm
/-- A threshold of powers is raised to the power by the secret. -/
theorem raises {P Q G m y : Int} {t : Nat} {xs : List Int} (hV : Valid P Q G) (hy : Mem P Q y) (hbl : belowS Q xs = true) (t8 : t ≤ 8) (tQ : (t : Int) < Q) (hlx : xs.length ≤ (chosenI m t).length) : raiseS P Q G (chosenI m t) (pows P y (chosenV m (sharesS Q xs t) t)) = (powm y (valS Q 0 xs) P, 0) := by
  have q2 := hV.2.2.1.1
  have h1 : 1 ≤ (chosenI m t).length := Nat.le_trans (belowS_true hbl).1 hlx
  have hP0 : 0 < P := by have := hV.grp.five; omega
  have hlc := chosen_len m (sharesS Q xs t) t
  have hbp : belowS P (pows P y (chosenV m (sharesS Q xs t) t)) = true := by
    have h8 := chosenI_le m t
    simp only [belowS, Bool.and_eq_true, decide_eq_true_eq, okAll, List.all_eq_true]
    refine ⟨⟨by rw [pows_len]; omega, by rw [pows_len]; omega⟩, fun x hx => ?_⟩
    rw [pows, List.mem_map] at hx
    obtain ⟨z, -, rfl⟩ := hx
    exact powm_lt hP0
  obtain ⟨ws, hp, hw⟩ := chosen_weights (L := P) hV t8 tQ h1 (by rw [pows_len]; exact hlc) hbp
  have hli := chosen_listed t8 tQ h1
  have hj := join_val (show 0 < Q by omega) (incS_nodup (listS_true hli).2.2) (units_of_wAll hw) hlc hlx (fun k hk => chosen_val k hk) hw
  have hr := raise_pow hV.grp hy (ws := ws) (zs := chosenV m (sharesS Q xs t) t) (fun w h => (wAll_range (by omega) hw w h).1) (fun z hz => (chosenV_u (by omega) (by have := hV.1; unfold Has at this; omega) z hz).1) (by rw [wAll_len hw, hlc]) _ (Nat.le_refl _)
  rw [raiseS, hp]
  simp only [if_true]
  rw [pows_len, hr, hj]

set_option maxRecDepth 100000 in
set_option maxHeartbeats 12800000 in
theorem walk (P Q G : Int) (a : Option Addr) (n c : Nat) (xs : List Int) (t m y : Int) (w : World) (uP : U64 P) (uQ : U64 Q) (uG : U64 G) (hS : ShI .u64 w a n xs) (hx : ∀ x, x ∈ xs → U64 x) (hc : a = none → c = 0) (hd : n ≤ c) (tl : -9223372036854775808 ≤ t) (tu : t ≤ 9223372036854775807) (m0 : 0 ≤ m) (m8 : m < 256) (uy : U64 y) :
    Calls Try.prog 8 #[.agg #[.int .u64 P, .int .u64 Q, .int .u64 G], .slice a n c, .int .i64 t, .int .u8 m, .int .u64 y] w fun e w' => e = .returned (.bool true) ∧ Below w.heap.size w w' := by
  have hP := uP.1
  have hQ := uQ.1
  have hG := uG.1
  have HS := Lib.hid hS
  have HX := Lib.hid hx
  have HLN := Lib.hid hS.len
  obtain ⟨co, hv⟩ := ValidS.exists P Q G
  obtain ⟨b, ps, ss, hd⟩ : ∃ b ps ss, dealS co P Q G t xs = (b, ps, ss) := ⟨_, _, _, rfl⟩
  have HV := Lib.hid hv
  have HD := Lib.hid hd
  obtain ⟨r, co2, hmb⟩ := RetB.exists (checkS P Q G P [y]) (Mem P Q y)
  have HMB := Lib.hid hmb
  have ha0 := uy.1
  cases b with
  | false =>
    clear hS hx hv hd hmb
    have F_g := Lib.hid (show Boxed (w.alloc (.cells #[.int .u64 P, .int .u64 Q, .int .u64 G] 24)) (w.heap.size) P Q G from Boxed.at _ P Q G _ (w.heap.size) (by simp))
    have HBW := Lib.hid (show Below w.heap.size w (w.alloc (.cells #[.int .u64 P, .int .u64 Q, .int .u64 G] 24)) from (Below.refl _ _).alloc (by simp <;> omega) _)
    go_enter Try.func8, Try.ntmps8
    obtain ⟨x0a, x0b, x0c, -⟩ := id F_g.out
    go_wp2_with fail
    clear x0a x0b x0c
    refine (alive_yes _).mono ?_
    rintro e w1 ⟨rfl, hb1⟩
    replace F_g := Lib.hid (F_g.out.keep hb1)
    replace HBW := Lib.hid (HBW.out.trans (hb1.mono HBW.out.size))
    clear hb1
    obtain ⟨x0a, x0b, x0c, -⟩ := id F_g.out
    go_wp2_with fail
    clear x0a x0b x0c
    refine (deal_any _ hP hQ hG tl tu (HS.out.keep HBW.out) HX.out HV.out HD.out).mono ?_
    rintro e w2 ⟨v1, v2, rfl, ho1, ho2, hb2⟩
    replace F_g := Lib.hid (F_g.out.keep hb2)
    replace HBW := Lib.hid (HBW.out.trans (hb2.mono HBW.out.size))
    clear hb2
    obtain ⟨b1, e1, rfl, hs1⟩ := ho1.shI
    obtain ⟨b2, e2, rfl, hs2⟩ := ho2.shI
    have F_p := Lib.hid hs1
    have F_q := Lib.hid hs2
    clear ho1 ho2 hs1 hs2
    replace F_g := Lib.hid (F_g.out.alloc (.cells #[.slice b1 ps.length e1, .slice b2 ss.length e2] 27))
    replace F_p := Lib.hid (F_p.out.alloc (.cells #[.slice b1 ps.length e1, .slice b2 ss.length e2] 27))
    replace F_q := Lib.hid (F_q.out.alloc (.cells #[.slice b1 ps.length e1, .slice b2 ss.length e2] 27))
    have F_d := Lib.hid (DealBox.at w2 (.slice b1 ps.length e1) (.slice b2 ss.length e2) 27 (w2.heap.size) (by simp))
    replace HBW := Lib.hid (HBW.out.alloc HBW.out.size (.cells #[.slice b1 ps.length e1, .slice b2 ss.length e2] 27))
    obtain ⟨x0a, x0b, x0c, -⟩ := id F_g.out
    obtain ⟨x3a, x3b, x3c, x3d, -⟩ := id F_d.out
    go_wp2_with fail
    clear x0a x0b x0c x3a x3b x3c x3d
    refine (member_gen hP hQ hG _ ha0 HMB.out).mono ?_
    rintro e w3 ⟨rfl, hb3⟩
    replace F_g := Lib.hid (F_g.out.keep hb3)
    replace F_p := Lib.hid (F_p.out.keep hb3)
    replace F_q := Lib.hid (F_q.out.keep hb3)
    replace F_d := Lib.hid (F_d.out.keep hb3)
    replace HBW := Lib.hid (HBW.out.trans (hb3.mono HBW.out.size))
    clear hb3
    obtain ⟨x0a, x0b, x0c, -⟩ := id F_g.out
    obtain ⟨x3a, x3b, x3c, x3d, -⟩ := id F_d.out
    go_wp2_with fail
    go_ret
    exact ⟨rfl, HBW.out⟩
  | true =>
    obtain ⟨hV, hbl, hlt, hnt, hps, hss⟩ := dealS_yes hv hd
    obtain ⟨t0, t8, tQ⟩ := numS_true hnt
    obtain ⟨tn, rfl⟩ : ∃ tn : Nat, t = (tn : Int) := ⟨t.toNat, by omega⟩
    rw [show (tn : Int).toNat = tn by omega] at hss
    obtain ⟨l1, l8, -⟩ := belowS_true hbl
    obtain ⟨p5, p3, _, pq, g2, gP⟩ := id hV.1
    have q3 : Q < 1073741824 := by omega
    have hnn : n = xs.length := HLN.out
    have hn8 : n ≤ 8 := by omega
    have HPL := Lib.hid (show ps.length = n by rw [hps, pledges_len, hnn])
    have HQL := Lib.hid (show ss.length = tn by rw [hss, shares_len])
    have HSS := Lib.hid hss
    have HCL := Lib.hid (chosen_len m (sharesS Q xs tn) tn)
    obtain ⟨il, hil⟩ : ∃ il, (chosenI m tn).length = il := ⟨_, rfl⟩
    have HIL := Lib.hid hil
    have hil8 : il ≤ 8 := by rw [← hil]; have := chosenI_le m tn; omega
    have HI64 := Lib.hid (chosenI_i (m := m) (t := tn) (by omega))
    have HVU := Lib.hid (chosenV_u (Q := Q) (m := m) (xs := xs) (t := tn) (by omega) (by omega))
    have hck := checkS_has (L := P) hV.1
    by_cases hmm : r = true ∧ co2 = 0
    case neg =>
      have hbad : (co2 != 0) = true ∨ (co2 = 0 ∧ r = false) := by
        by_cases h : co2 = 0
        · right; refine ⟨h, ?_⟩; cases r with
          | false => rfl
          | true => exact absurd ⟨rfl, h⟩ hmm
        · left; simpa using h
      rcases hbad with hbad | ⟨rfl, rfl⟩
      · clear hS hx hv hd hps hss hnt hbl hV pq hil hnn hmm hck hmb
        have F_g := Lib.hid (show Boxed (w.alloc (.cells #[.int .u64 P, .int .u64 Q, .int .u64 G] 24)) (w.heap.size) P Q G from Boxed.at _ P Q G _ (w.heap.size) (by simp))
        have HBW := Lib.hid (show Below w.heap.size w (w.alloc (.cells #[.int .u64 P, .int .u64 Q, .int .u64 G] 24)) from (Below.refl _ _).alloc (by simp <;> omega) _)
        go_enter Try.func8, Try.ntmps8
        obtain ⟨x0a, x0b, x0c, -⟩ := id F_g.out
        go_wp2_with fail
        clear x0a x0b x0c
        refine (alive_yes _).mono ?_
        rintro e w1 ⟨rfl, hb1⟩
        replace F_g := Lib.hid (F_g.out.keep hb1)
        replace HBW := Lib.hid (HBW.out.trans (hb1.mono HBW.out.size))
        clear hb1
        obtain ⟨x0a, x0b, x0c, -⟩ := id F_g.out
        go_wp2_with fail
        clear x0a x0b x0c
        refine (deal_any _ hP hQ hG tl tu (HS.out.keep HBW.out) HX.out HV.out HD.out).mono ?_
        rintro e w2 ⟨v1, v2, rfl, ho1, ho2, hb2⟩
        replace F_g := Lib.hid (F_g.out.keep hb2)
        replace HBW := Lib.hid (HBW.out.trans (hb2.mono HBW.out.size))
        clear hb2
        obtain ⟨b1, e1, rfl, hs1⟩ := ho1.shI
        obtain ⟨b2, e2, rfl, hs2⟩ := ho2.shI
        have F_p := Lib.hid hs1
        have F_q := Lib.hid hs2
        clear ho1 ho2 hs1 hs2
        rw [HPL.out] at F_p ⊢
        rw [HQL.out] at F_q ⊢
        replace F_g := Lib.hid (F_g.out.alloc (.cells #[.slice b1 n e1, .slice b2 tn e2] 27))
        replace F_p := Lib.hid (F_p.out.alloc (.cells #[.slice b1 n e1, .slice b2 tn e2] 27))
        replace F_q := Lib.hid (F_q.out.alloc (.cells #[.slice b1 n e1, .slice b2 tn e2] 27))
        have F_d := Lib.hid (DealBox.at w2 (.slice b1 n e1) (.slice b2 tn e2) 27 (w2.heap.size) (by simp))
        replace HBW := Lib.hid (HBW.out.alloc HBW.out.size (.cells #[.slice b1 n e1, .slice b2 tn e2] 27))
        obtain ⟨x0a, x0b, x0c, -⟩ := id F_g.out
        obtain ⟨x3a, x3b, x3c, x3d, -⟩ := id F_d.out
        go_wp2_with fail
        clear x0a x0b x0c x3a x3b x3c x3d
        refine (member_gen hP hQ hG _ ha0 HMB.out).mono ?_
        rintro e w3 ⟨rfl, hb3⟩
        replace F_g := Lib.hid (F_g.out.keep hb3)
        replace F_p := Lib.hid (F_p.out.keep hb3)
        replace F_q := Lib.hid (F_q.out.keep hb3)
        replace F_d := Lib.hid (F_d.out.keep hb3)
        replace HBW := Lib.hid (HBW.out.trans (hb3.mono HBW.out.size))
        clear hb3
        obtain ⟨x0a, x0b, x0c, -⟩ := id F_g.out
        obtain ⟨x3a, x3b, x3c, x3d, -⟩ := id F_d.out
        go_wp2_with fail
        go_ret
        exact ⟨rfl, HBW.out⟩
      · clear hS hx hv hd hps hss hnt hbl hV pq hil hnn hmm hck hmb
        have F_g := Lib.hid (show Boxed (w.alloc (.cells #[.int .u64 P, .int .u64 Q, .int .u64 G] 24)) (w.heap.size) P Q G from Boxed.at _ P Q G _ (w.heap.size) (by simp))
        have HBW := Lib.hid (show Below w.heap.size w (w.alloc (.cells #[.int .u64 P, .int .u64 Q, .int .u64 G] 24)) from (Below.refl _ _).alloc (by simp <;> omega) _)
        go_enter Try.func8, Try.ntmps8
        obtain ⟨x0a, x0b, x0c, -⟩ := id F_g.out
        go_wp2_with fail
        clear x0a x0b x0c
        refine (alive_yes _).mono ?_
        rintro e w1 ⟨rfl, hb1⟩
        replace F_g := Lib.hid (F_g.out.keep hb1)
        replace HBW := Lib.hid (HBW.out.trans (hb1.mono HBW.out.size))
        clear hb1
        obtain ⟨x0a, x0b, x0c, -⟩ := id F_g.out
        go_wp2_with fail
        clear x0a x0b x0c
        refine (deal_any _ hP hQ hG tl tu (HS.out.keep HBW.out) HX.out HV.out HD.out).mono ?_
        rintro e w2 ⟨v1, v2, rfl, ho1, ho2, hb2⟩
        replace F_g := Lib.hid (F_g.out.keep hb2)
        replace HBW := Lib.hid (HBW.out.trans (hb2.mono HBW.out.size))
        clear hb2
        obtain ⟨b1, e1, rfl, hs1⟩ := ho1.shI
        obtain ⟨b2, e2, rfl, hs2⟩ := ho2.shI
        have F_p := Lib.hid hs1
        have F_q := Lib.hid hs2
        clear ho1 ho2 hs1 hs2
        rw [HPL.out] at F_p ⊢
        rw [HQL.out] at F_q ⊢
        replace F_g := Lib.hid (F_g.out.alloc (.cells #[.slice b1 n e1, .slice b2 tn e2] 27))
        replace F_p := Lib.hid (F_p.out.alloc (.cells #[.slice b1 n e1, .slice b2 tn e2] 27))
        replace F_q := Lib.hid (F_q.out.alloc (.cells #[.slice b1 n e1, .slice b2 tn e2] 27))
        have F_d := Lib.hid (DealBox.at w2 (.slice b1 n e1) (.slice b2 tn e2) 27 (w2.heap.size) (by simp))
        replace HBW := Lib.hid (HBW.out.alloc HBW.out.size (.cells #[.slice b1 n e1, .slice b2 tn e2] 27))
        obtain ⟨x0a, x0b, x0c, -⟩ := id F_g.out
        obtain ⟨x3a, x3b, x3c, x3d, -⟩ := id F_d.out
        go_wp2_with fail
        clear x0a x0b x0c x3a x3b x3c x3d
        refine (member_gen hP hQ hG _ ha0 HMB.out).mono ?_
        rintro e w3 ⟨rfl, hb3⟩
        replace F_g := Lib.hid (F_g.out.keep hb3)
        replace F_p := Lib.hid (F_p.out.keep hb3)
        replace F_q := Lib.hid (F_q.out.keep hb3)
        replace F_d := Lib.hid (F_d.out.keep hb3)
        replace HBW := Lib.hid (HBW.out.trans (hb3.mono HBW.out.size))
        clear hb3
        obtain ⟨x0a, x0b, x0c, -⟩ := id F_g.out
        obtain ⟨x3a, x3b, x3c, x3d, -⟩ := id F_d.out
        go_wp2_with fail
        go_ret
        exact ⟨rfl, HBW.out⟩
    case pos =>
     obtain ⟨rfl, rfl⟩ := hmm
     have hmem0 : y < P ∧ Mem P Q y := by
       rcases hmb with ⟨h, h1, -⟩ | ⟨-, h, -⟩
       · exact ⟨(checkS_zero h).2 y (by simp), h1.1 rfl⟩
       · cases h
     obtain ⟨haP, hMem⟩ := hmem0
     clear hck hmb
     by_cases hin : n ≤ il
     case neg =>
      have d1 : decide ((il : Int) < (n : Int)) = true := by simp; omega
      have d1n : decide (il < n) = true := by simp; omega
      clear hS hx hv hd hps hss hnt hbl hV pq hil hnn hMem
      have F_g := Lib.hid (show Boxed (w.alloc (.cells #[.int .u64 P, .int .u64 Q, .int .u64 G] 24)) (w.heap.size) P Q G from Boxed.at _ P Q G _ (w.heap.size) (by simp))
      have HBW := Lib.hid (show Below w.heap.size w (w.alloc (.cells #[.int .u64 P, .int .u64 Q, .int .u64 G] 24)) from (Below.refl _ _).alloc (by simp <;> omega) _)
      go_enter Try.func8, Try.ntmps8
      obtain ⟨x0a, x0b, x0c, -⟩ := id F_g.out
      go_wp2_with fail
      clear x0a x0b x0c
      refine (alive_yes _).mono ?_
      rintro e w1 ⟨rfl, hb1⟩
      replace F_g := Lib.hid (F_g.out.keep hb1)
      replace HBW := Lib.hid (HBW.out.trans (hb1.mono HBW.out.size))
      clear hb1
      obtain ⟨x0a, x0b, x0c, -⟩ := id F_g.out
      go_wp2_with fail
      clear x0a x0b x0c
      refine (deal_any _ hP hQ hG tl tu (HS.out.keep HBW.out) HX.out HV.out HD.out).mono ?_
      rintro e w2 ⟨v1, v2, rfl, ho1, ho2, hb2⟩
      replace F_g := Lib.hid (F_g.out.keep hb2)
      replace HBW := Lib.hid (HBW.out.trans (hb2.mono HBW.out.size))
      clear hb2
      obtain ⟨b1, e1, rfl, hs1⟩ := ho1.shI
      obtain ⟨b2, e2, rfl, hs2⟩ := ho2.shI
      have F_p := Lib.hid hs1
      have F_q := Lib.hid hs2
      clear ho1 ho2 hs1 hs2
      rw [HPL.out] at F_p ⊢
      rw [HQL.out] at F_q ⊢
      replace F_g := Lib.hid (F_g.out.alloc (.cells #[.slice b1 n e1, .slice b2 tn e2] 27))
      replace F_p := Lib.hid (F_p.out.alloc (.cells #[.slice b1 n e1, .slice b2 tn e2] 27))
      replace F_q := Lib.hid (F_q.out.alloc (.cells #[.slice b1 n e1, .slice b2 tn e2] 27))
      have F_d := Lib.hid (DealBox.at w2 (.slice b1 n e1) (.slice b2 tn e2) 27 (w2.heap.size) (by simp))
      replace HBW := Lib.hid (HBW.out.alloc HBW.out.size (.cells #[.slice b1 n e1, .slice b2 tn e2] 27))
      obtain ⟨x0a, x0b, x0c, -⟩ := id F_g.out
      obtain ⟨x3a, x3b, x3c, x3d, -⟩ := id F_d.out
      go_wp2_with fail
      clear x0a x0b x0c x3a x3b x3c x3d
      refine (member_gen hP hQ hG _ ha0 HMB.out).mono ?_
      rintro e w3 ⟨rfl, hb3⟩
      replace F_g := Lib.hid (F_g.out.keep hb3)
      replace F_p := Lib.hid (F_p.out.keep hb3)
      replace F_q := Lib.hid (F_q.out.keep hb3)
      replace F_d := Lib.hid (F_d.out.keep hb3)
      replace HBW := Lib.hid (HBW.out.trans (hb3.mono HBW.out.size))
      clear hb3
      obtain ⟨x0a, x0b, x0c, -⟩ := id F_g.out
      obtain ⟨x3a, x3b, x3c, x3d, -⟩ := id F_d.out
      go_wp2_with fail
      clear x0a x0b x0c x3a x3b x3c x3d
      refine (chosen_any _ F_q.out (by omega) m0 m8).mono ?_
      rintro e w4 ⟨v3, v4, rfl, ho1, ho2, hb4⟩
      replace F_g := Lib.hid (F_g.out.keep hb4)
      replace F_p := Lib.hid (F_p.out.keep hb4)
      replace F_q := Lib.hid (F_q.out.keep hb4)
      replace F_d := Lib.hid (F_d.out.keep hb4)
      replace HBW := Lib.hid (HBW.out.trans (hb4.mono HBW.out.size))
      clear hb4
      obtain ⟨b3, e3, rfl, hs3⟩ := ho1.shI
      obtain ⟨b4, e4, rfl, hs4⟩ := ho2.shI
      have F_i := Lib.hid hs3
      have F_v := Lib.hid hs4
      clear ho1 ho2 hs3 hs4
      rw [HSS.out] at F_v ⊢
      rw [HCL.out] at F_v ⊢
      rw [HIL.out] at F_i F_v ⊢
      obtain ⟨x0a, x0b, x0c, -⟩ := id F_g.out
      obtain ⟨x3a, x3b, x3c, x3d, -⟩ := id F_d.out
      go_wp2_with fail
      go_ret
      exact ⟨rfl, HBW.out⟩
     case pos =>
      have d1 : decide ((il : Int) < (n : Int)) = false := by simp; omega
      have d1n : decide (il < n) = false := by simp; omega
      obtain ⟨x0, hx0⟩ : ∃ x0, xs.getD 0 0 = x0 := ⟨_, rfl⟩
      obtain ⟨s3, f3, ha3, hs3, hc3, -⟩ := HS.out.at 0 (by omega)
      rw [hx0, Nat.add_zero] at hc3
      have HC0 := Lib.hid (show ∀ W', Below w.heap.size w W' → W'.cell? ⟨s3, f3, none⟩ = some (.int .u64 x0) from fun W' h => (h.cell (p := ⟨s3, f3, none⟩) hs3).trans hc3)
      have hn1 : (0 : Int) < (n : Int) := by omega
      have hn1n : 0 < n := by omega
      have hx00 : 0 ≤ x0 ∧ x0 < Q := by rw [← hx0, getD_at (show 0 < xs.length by omega)]; exact belowS_bd hbl hx _ (List.getElem_mem _)
      have UX0 := Lib.hid (show U64 x0 from ⟨hx00.1, by omega⟩)
      obtain ⟨r0, hr0⟩ : ∃ r0, powm y x0 P = r0 := ⟨_, rfl⟩
      have HR0 := Lib.hid hr0
      have HH := Lib.hid hV.1
      have HCL2 := Lib.hid (show (chosenV m (sharesS Q xs tn) tn).length = il by rw [chosen_len, hil])
      have HRAISE := Lib.hid (show raiseS P Q G (chosenI m tn) (pows P y (chosenV m (sharesS Q xs tn) tn)) = (r0, 0) by
        rw [raises hV hMem hbl (by omega) tQ (by omega), val0_head hbl hx, hx0, hr0])
      have HPU9 := Lib.hid (pows_u (P := P) (y := y) (zs := chosenV m (sharesS Q xs tn) tn) (by omega) (by omega))
      obtain ⟨ui, hui, huz0, huz1, huz2⟩ := info_parts (P := Try.prog) (e := 22) (z := .int .u64 0) (size := 1) (bytes := 8) (by kernel_rfl)
      clear hS hx hv hd hps hss hnt hbl hV pq hil hnn hx0 hc3 hMem hx00 hr0
      subst ha3
      have F_g := Lib.hid (show Boxed (w.alloc (.cells #[.int .u64 P, .int .u64 Q, .int .u64 G] 24)) (w.heap.size) P Q G from Boxed.at _ P Q G _ (w.heap.size) (by simp))
      have HBW := Lib.hid (show Below w.heap.size w (w.alloc (.cells #[.int .u64 P, .int .u64 Q, .int .u64 G] 24)) from (Below.refl _ _).alloc (by simp <;> omega) _)
      go_enter Try.func8, Try.ntmps8
      obtain ⟨x0a, x0b, x0c, -⟩ := id F_g.out
      go_wp2_with fail
      clear x0a x0b x0c
      refine (alive_yes _).mono ?_
      rintro e w1 ⟨rfl, hb1⟩
      replace F_g := Lib.hid (F_g.out.keep hb1)
      replace HBW := Lib.hid (HBW.out.trans (hb1.mono HBW.out.size))
      clear hb1
      obtain ⟨x0a, x0b, x0c, -⟩ := id F_g.out
      go_wp2_with fail
      clear x0a x0b x0c
      refine (deal_any _ hP hQ hG tl tu (HS.out.keep HBW.out) HX.out HV.out HD.out).mono ?_
      rintro e w2 ⟨v1, v2, rfl, ho1, ho2, hb2⟩
      replace F_g := Lib.hid (F_g.out.keep hb2)
      replace HBW := Lib.hid (HBW.out.trans (hb2.mono HBW.out.size))
      clear hb2
      obtain ⟨b1, e1, rfl, hs1⟩ := ho1.shI
      obtain ⟨b2, e2, rfl, hs2⟩ := ho2.shI
      have F_p := Lib.hid hs1
      have F_q := Lib.hid hs2
      clear ho1 ho2 hs1 hs2
      rw [HPL.out] at F_p ⊢
      rw [HQL.out] at F_q ⊢
      replace F_g := Lib.hid (F_g.out.alloc (.cells #[.slice b1 n e1, .slice b2 tn e2] 27))
      replace F_p := Lib.hid (F_p.out.alloc (.cells #[.slice b1 n e1, .slice b2 tn e2] 27))
      replace F_q := Lib.hid (F_q.out.alloc (.cells #[.slice b1 n e1, .slice b2 tn e2] 27))
      have F_d := Lib.hid (DealBox.at w2 (.slice b1 n e1) (.slice b2 tn e2) 27 (w2.heap.size) (by simp))
      replace HBW := Lib.hid (HBW.out.alloc HBW.out.size (.cells #[.slice b1 n e1, .slice b2 tn e2] 27))
      obtain ⟨x0a, x0b, x0c, -⟩ := id F_g.out
      obtain ⟨x3a, x3b, x3c, x3d, -⟩ := id F_d.out
      go_wp2_with fail
      clear x0a x0b x0c x3a x3b x3c x3d
      refine (member_gen hP hQ hG _ ha0 HMB.out).mono ?_
      rintro e w3 ⟨rfl, hb3⟩
      replace F_g := Lib.hid (F_g.out.keep hb3)
      replace F_p := Lib.hid (F_p.out.keep hb3)
      replace F_q := Lib.hid (F_q.out.keep hb3)
      replace F_d := Lib.hid (F_d.out.keep hb3)
      replace HBW := Lib.hid (HBW.out.trans (hb3.mono HBW.out.size))
      clear hb3
      obtain ⟨x0a, x0b, x0c, -⟩ := id F_g.out
      obtain ⟨x3a, x3b, x3c, x3d, -⟩ := id F_d.out
      go_wp2_with fail
      clear x0a x0b x0c x3a x3b x3c x3d
      refine (chosen_any _ F_q.out (by omega) m0 m8).mono ?_
      rintro e w4 ⟨v3, v4, rfl, ho1, ho2, hb4⟩
      replace F_g := Lib.hid (F_g.out.keep hb4)
      replace F_p := Lib.hid (F_p.out.keep hb4)
      replace F_q := Lib.hid (F_q.out.keep hb4)
      replace F_d := Lib.hid (F_d.out.keep hb4)
      replace HBW := Lib.hid (HBW.out.trans (hb4.mono HBW.out.size))
      clear hb4
      obtain ⟨b3, e3, rfl, hs3⟩ := ho1.shI
      obtain ⟨b4, e4, rfl, hs4⟩ := ho2.shI
      have F_i := Lib.hid hs3
      have F_v := Lib.hid hs4
      clear ho1 ho2 hs3 hs4
      rw [HSS.out] at F_v ⊢
      rw [HCL.out] at F_v ⊢
      rw [HIL.out] at F_i F_v ⊢
      have hn4 := F_g.out.lt
      have HBV := Lib.hid (Below.refl w4.heap.size w4)
      go_wp2_with fail
      go_loopw [18, 19, 20, 21] (fun c18 c19 c20 c21 wr => ∃ k : Nat, k ≤ il ∧ c19 = .int .i64 k ∧ ∃ (oa : Option Addr) (oc : Nat), c18 = .slice oa k oc ∧ Hid (OwnU wr w4.heap.size (.slice oa k oc) (pows P y ((chosenV m (sharesS Q xs tn) tn).take k))) ∧ Hid (Below w4.heap.size w4 wr)) (fun _ c19 _ _ _ => il - (intOf c19).toNat)
      case atStart => exact ⟨0, Nat.zero_le _, rfl, none, 0, rfl, OwnU.nil _ _, HBV.out⟩
      case round =>
        clear HBV
        obtain ⟨k, hk, rfl, oa, oc, rfl, F_w, HBV⟩ := hrel
        have hvz := HBV.out.size
        have hk0 : (0 : Int) ≤ (k : Int) := by omega
        by_cases hlt : k < il
        case pos =>
          obtain ⟨s5, f5, hb4, hs5, hc5, hm5⟩ := F_v.out.at k hlt
          obtain ⟨z, hz⟩ : ∃ z, (chosenV m (sharesS Q xs tn) tn).getD k 0 = z := ⟨_, rfl⟩
          rw [hz] at hc5 hm5
          have UZ := Lib.hid (HVU.out z hm5)
          have HEC := Lib.hid hc5
          have HZ := Lib.hid hz
          clear hc5 hm5 hz
          subst hb4
          have hk1 : (k : Int) < (il : Int) := by omega
          obtain ⟨pz, hpz⟩ : ∃ pz, powm y z P = pz := ⟨_, rfl⟩
          have HPZ := Lib.hid hpz
          clear hpz
          have hbw5 := HBV.out
          have HLW := Lib.hid (show (pows P y ((chosenV m (sharesS Q xs tn) tn).take k)).length = k by rw [pows_len, List.length_take, HCL2.out]; omega)
          go_wp2_with fail
          replace HBV := Lib.hid HBV.out.drew
          replace F_w := Lib.hid (F_w.out.keep (Below.refl _ _).drew)
          have hS := And.intro (F_g.out.keep HBV.out).s ((HBV.out.cell (p := ⟨s5, f5 + k, none⟩) hs5).trans HEC.out)
          refine wp_region_stage 11 (fun w' => SBox w' w.heap.size P Q G ∧ w'.cell? ⟨s5, f5 + k, none⟩ = some (.int .u64 z)) (by kernel_rfl) ?_
          refine wpAnyB_take (i := 0) (some 74) (Op.load 24 (Operand.tmp 5)) 24 (v := ?_) ⟨_, rfl, rfl, rfl, rfl, rfl⟩ (by kernel_rfl) (by kernel_rfl) (by kernel_rfl) [6, 7, 8, 9, 10, 11] (by kernel_rfl) (fun _ _ _ h => h) hS (fun w' hSw => ?_) ?_
          rotate_left
          · obtain ⟨⟨z0, z1, z2⟩, z3⟩ := hSw
            unfold bareOp
            go_simp
            try with_reducible rfl
          simp only [Act.put, List.setIfInBounds_toArray, List.set_cons_zero, List.set_cons_succ]
          refine wpAnyB_takeP (i := 1) (some 75) (Op.move (Operand.tmp 4)) 22 (v := ?_) ⟨_, rfl, rfl, rfl, rfl, rfl⟩ (by kernel_rfl) (by kernel_rfl) (by kernel_rfl) (by kernel_rfl) (fun _ _ _ h => h) (fun _ => hS) (fun w' => ?_) ?_
          rotate_left
          · unfold bareOp
            go_simp
            try with_reducible rfl
          simp only [Act.put, List.setIfInBounds_toArray, List.set_cons_zero, List.set_cons_succ]
          refine wpAnyB_takeP (i := 2) (some 76) (Op.move (Operand.tmp 17)) 25 (v := ?_) ⟨_, rfl, rfl, rfl, rfl, rfl⟩ (by kernel_rfl) (by kernel_rfl) (by kernel_rfl) (by kernel_rfl) (fun _ _ _ h => h) (fun _ => hS) (fun w' => ?_) ?_
          rotate_left
          · unfold bareOp
            go_simp
            try with_reducible rfl
          simp only [Act.put, List.setIfInBounds_toArray, List.set_cons_zero, List.set_cons_succ]
          refine wpAnyB_takeP (i := 3) (some 77) (Op.move (Operand.tmp 19)) 3 (v := ?_) ⟨_, rfl, rfl, rfl, rfl, rfl⟩ (by kernel_rfl) (by kernel_rfl) (by kernel_rfl) (by kernel_rfl) (fun _ _ _ h => h) (fun _ => hS) (fun w' => ?_) ?_
          rotate_left
          · unfold bareOp
            go_simp
            try with_reducible rfl
          simp only [Act.put, List.setIfInBounds_toArray, List.set_cons_zero, List.set_cons_succ]
          refine wpAnyB_takeP (i := 4) (some 78) (Op.indexAddr 25 (Operand.tmp 76) (Operand.tmp 77)) 0 (v := ?_) ⟨_, rfl, rfl, rfl, rfl, rfl⟩ (by kernel_rfl) (by kernel_rfl) (by kernel_rfl) (by kernel_rfl) (fun _ _ _ h => h) (fun _ => hS) (fun w' => ?_) ?_
          rotate_left
          · unfold bareOp
            go_simp
            try with_reducible rfl
          simp only [Act.put, List.setIfInBounds_toArray, List.set_cons_zero, List.set_cons_succ]
          refine wpAnyB_take (i := 5) (some 79) (Op.load 22 (Operand.tmp 78)) 22 (v := ?_) ⟨_, rfl, rfl, rfl, rfl, rfl⟩ (by kernel_rfl) (by kernel_rfl) (by kernel_rfl) [6, 7, 8, 9, 10, 11] (by kernel_rfl) (fun _ _ _ h => h) hS (fun w' hSw => ?_) ?_
          rotate_left
          · obtain ⟨⟨z0, z1, z2⟩, z3⟩ := hSw
            unfold bareOp
            go_simp
            try with_reducible rfl
          simp only [Act.put, List.setIfInBounds_toArray, List.set_cons_zero, List.set_cons_succ]
          refine wpAnyB_only (i := 6) (some 80) (Op.call { callee := Callee.value (Operand.func 42), args := #[Operand.tmp 74, Operand.tmp 75, Operand.tmp 79], argTypes := #[24, 22, 22] }) 39 ⟨_, rfl, rfl, rfl, rfl, rfl⟩ (by kernel_rfl) (fun K hK => ?_)
          unfold bareOp
          go_wp2_with (go_at_call 42; refine (pow_ok P Q G y z pz _ HH.out ha0 haP UZ.out HPZ.out).mono ?_; rintro e w6 ⟨rfl, hb6⟩)
          replace F_w := Lib.hid (F_w.out.keep hb6)
          replace HBV := Lib.hid (HBV.out.trans (hb6.mono HBV.out.size))
          replace hS := And.intro (F_g.out.keep HBV.out).s ((HBV.out.cell (p := ⟨s5, f5 + k, none⟩) hs5).trans HEC.out)
          clear hb6
          refine hK.out _ _ (fun _ => hS) ?_
          clear hK K
          try simp only [Act.put, List.setIfInBounds_toArray, List.set_cons_zero, List.set_cons_succ]
          refine wpAnyB_takeP (i := 7) (some 73) (Op.move (Operand.tmp 80)) 39 (v := ?_) ⟨_, rfl, rfl, rfl, rfl, rfl⟩ (by kernel_rfl) (by kernel_rfl) (by kernel_rfl) (by kernel_rfl) (fun _ _ _ h => h) (fun _ => hS) (fun w' => ?_) ?_
          rotate_left
          · unfold bareOp
            go_simp
            try with_reducible rfl
          simp only [Act.put, List.setIfInBounds_toArray, List.set_cons_zero, List.set_cons_succ]
          refine wpAnyB_takeP (i := 8) (some 81) (Op.extract (Operand.tmp 73) 0) 22 (v := ?_) ⟨_, rfl, rfl, rfl, rfl, rfl⟩ (by kernel_rfl) (by kernel_rfl) (by kernel_rfl) (by kernel_rfl) (fun _ _ _ h => h) (fun _ => hS) (fun w' => ?_) ?_
          rotate_left
          · unfold bareOp
            go_simp
            try with_reducible rfl
          simp only [Act.put, List.setIfInBounds_toArray, List.set_cons_zero, List.set_cons_succ]
          refine wpAnyB_takeP (i := 9) (some 82) (Op.extract (Operand.tmp 73) 1) 30 (v := ?_) ⟨_, rfl, rfl, rfl, rfl, rfl⟩ (by kernel_rfl) (by kernel_rfl) (by kernel_rfl) (by kernel_rfl) (fun _ _ _ h => h) (fun _ => hS) (fun w' => ?_) ?_
          rotate_left
          · unfold bareOp
            go_simp
            try with_reducible rfl
          simp only [Act.put, List.setIfInBounds_toArray, List.set_cons_zero, List.set_cons_succ]
          refine wpAnyB_takeP (i := 10) (some 20) (Op.assign (Operand.tmp 81)) 22 (v := ?_) ⟨_, rfl, rfl, rfl, rfl, rfl⟩ (by kernel_rfl) (by kernel_rfl) (by kernel_rfl) (by kernel_rfl) (fun _ _ _ h => h) (fun _ => hS) (fun w' => ?_) ?_
          rotate_left
          · unfold bareOp
            go_simp
            try with_reducible rfl
          simp only [Act.put, List.setIfInBounds_toArray, List.set_cons_zero, List.set_cons_succ]
          refine wpAnyB_only (i := 11) (some 21) (Op.assign (Operand.tmp 82)) 30 ⟨_, rfl, rfl, rfl, rfl, rfl⟩ (by kernel_rfl) (fun K hK => ?_)
          unfold bareOp
          go_wp2_with fail
          refine hK.out _ _ (fun h => absurd (h.symm.trans (by kernel_rfl : _ = true)) (by decide)) ?_
          clear hK K
          try simp only [Act.put, List.setIfInBounds_toArray, List.set_cons_zero, List.set_cons_succ]
          refine wpAnyB_done (by kernel_rfl) ?_ _
          clear hS
          have hbw6 := HBV.out.size
          go_wp2_with (at_builtin; refine wpList_append_own _ rfl _ _ 25 rfl w4.heap.size 22 ui (.int .u64 0) 1 8 Try.underlying25 hui huz0 huz1 huz2 rfl (by decide) _ k ((pows P y ((chosenV m (sharesS Q xs tn) tn).take k)).map (Value.int IntKind.u64)) rfl (own_at ((F_w.out.keep ((Below.refl _ _).alloc (Nat.le_refl _) _))) HLW.out) _ 1 1 [.int .u64 pz] rfl rfl (cell_one_new _ _ _) (by simp [Value.oneCell']) (by unfold maxLen; omega) (by omega) (by simp; omega) ?_; intro v9 w9 hown hgr hnil; have HOWN := Lib.hid hown; have HGR := Lib.hid hgr; clear hown hgr hnil)
          have hbr := Below.row (n := w4.heap.size) HGR.out (fun j hj => (F_w.out.lt j hj).1) (by simp; omega)
          have hown9 : OwnU w9 w4.heap.size v9 (pows P y ((chosenV m (sharesS Q xs tn) tn).take (k + 1))) := by
            rw [pows_snoc P y _ k (by rw [HCL2.out]; exact hlt), HZ.out, HPZ.out]
            have h9 := HOWN.out
            have e9 : (pows P y ((chosenV m (sharesS Q xs tn) tn).take k) ++ [pz]).length = k + 1 := by rw [List.length_append, HLW.out]; rfl
            unfold OwnU
            rw [e9, List.map_append]
            exact h9
          have hl9 : (pows P y ((chosenV m (sharesS Q xs tn) tn).take (k + 1))).length = k + 1 := by rw [pows_len, List.length_take, HCL2.out]; omega
          obtain ⟨oa', oc', rfl⟩ := hown9.sl
          rw [hl9] at hown9
          have HO9 := Lib.hid hown9
          have HBV9 := Lib.hid ((HBV.out.alloc hbw6 _).trans hbr)
          clear hown9 hbr
          rw [hl9]
          clear hl9
          go_roundw
          case rel => exact ⟨k + 1, by omega, by go_num, oa', oc', rfl, HO9.out, HBV9.out⟩
          case measure => simp [intOf]; omega
        case neg =>
          have hkn : k = il := by omega
          rw [hkn, ← HCL2.out, List.take_length, HCL2.out] at F_w
          have HKN := Lib.hid hkn
          obtain ⟨oa', oc', he, hsw⟩ := F_w.out.shI
          have hl9 : (pows P y (chosenV m (sharesS Q xs tn) tn)).length = il := by rw [pows_len]; exact HCL2.out
          rw [hl9] at he hsw
          cases he
          have F_z := Lib.hid hsw
          replace F_g := Lib.hid (F_g.out.keep HBV.out)
          replace F_i := Lib.hid (F_i.out.keep HBV.out)
          replace HBW := Lib.hid (HBW.out.trans (HBV.out.mono HBW.out.size))
          clear hkn hsw hl9 F_p F_q F_d F_v
          rw [HKN.out]
          obtain ⟨x0a, x0b, x0c, -⟩ := id F_g.out
          go_wp2_with fail
          clear x0a x0b x0c
          refine (sRaise_any _ hP hQ hG F_i.out (by omega) HI64.out F_z.out (by omega) HPU9.out HRAISE.out).mono ?_
          rintro e w7 ⟨rfl, hb7⟩
          replace F_g := Lib.hid (F_g.out.keep hb7)
          replace HBW := Lib.hid (HBW.out.trans (hb7.mono HBW.out.size))
          clear hb7
          go_wp2_with fail
          replace HBW := Lib.hid HBW.out.drew
          replace F_g := Lib.hid F_g.out.drew
          have hS := And.intro (F_g.out).s (HC0.out _ HBW.out)
          refine wp_region_stage 10 (fun w' => SBox w' w.heap.size P Q G ∧ w'.cell? ⟨s3, f3, none⟩ = some (.int .u64 x0)) (by kernel_rfl) ?_
          refine wpAnyB_take (i := 0) (some 97) (Op.load 24 (Operand.tmp 5)) 24 (v := ?_) ⟨_, rfl, rfl, rfl, rfl, rfl⟩ (by kernel_rfl) (by kernel_rfl) (by kernel_rfl) [5, 6, 7, 8, 9, 10] (by kernel_rfl) (fun _ _ _ h => h) hS (fun w' hSw => ?_) ?_
          rotate_left
          · obtain ⟨⟨z0, z1, z2⟩, z3⟩ := hSw
            unfold bareOp
            go_simp
            try with_reducible rfl
          simp only [Act.put, List.setIfInBounds_toArray, List.set_cons_zero, List.set_cons_succ]
          refine wpAnyB_takeP (i := 1) (some 98) (Op.move (Operand.tmp 4)) 22 (v := ?_) ⟨_, rfl, rfl, rfl, rfl, rfl⟩ (by kernel_rfl) (by kernel_rfl) (by kernel_rfl) (by kernel_rfl) (fun _ _ _ h => h) (fun _ => hS) (fun w' => ?_) ?_
          rotate_left
          · unfold bareOp
            go_simp
            try with_reducible rfl
          simp only [Act.put, List.setIfInBounds_toArray, List.set_cons_zero, List.set_cons_succ]
          refine wpAnyB_takeP (i := 2) (some 99) (Op.move (Operand.tmp 1)) 25 (v := ?_) ⟨_, rfl, rfl, rfl, rfl, rfl⟩ (by kernel_rfl) (by kernel_rfl) (by kernel_rfl) (by kernel_rfl) (fun _ _ _ h => h) (fun _ => hS) (fun w' => ?_) ?_
          rotate_left
          · unfold bareOp
            go_simp
            try with_reducible rfl
          simp only [Act.put, List.setIfInBounds_toArray, List.set_cons_zero, List.set_cons_succ]
          refine wpAnyB_takeP (i := 3) (some 100) (Op.indexAddr 25 (Operand.tmp 99) (Operand.const (Value.int IntKind.i64 0))) 0 (v := ?_) ⟨_, rfl, rfl, rfl, rfl, rfl⟩ (by kernel_rfl) (by kernel_rfl) (by kernel_rfl) (by kernel_rfl) (fun _ _ _ h => h) (fun _ => hS) (fun w' => ?_) ?_
          rotate_left
          · unfold bareOp
            go_simp
            try with_reducible rfl
          simp only [Act.put, List.setIfInBounds_toArray, List.set_cons_zero, List.set_cons_succ]
          refine wpAnyB_take (i := 4) (some 101) (Op.load 22 (Operand.tmp 100)) 22 (v := ?_) ⟨_, rfl, rfl, rfl, rfl, rfl⟩ (by kernel_rfl) (by kernel_rfl) (by kernel_rfl) [5, 6, 7, 8, 9, 10] (by kernel_rfl) (fun _ _ _ h => h) hS (fun w' hSw => ?_) ?_
          rotate_left
          · obtain ⟨⟨z0, z1, z2⟩, z3⟩ := hSw
            unfold bareOp
            go_simp
            try with_reducible rfl
          simp only [Act.put, List.setIfInBounds_toArray, List.set_cons_zero, List.set_cons_succ]
          refine wpAnyB_only (i := 5) (some 102) (Op.call { callee := Callee.value (Operand.func 42), args := #[Operand.tmp 97, Operand.tmp 98, Operand.tmp 101], argTypes := #[24, 22, 22] }) 39 ⟨_, rfl, rfl, rfl, rfl, rfl⟩ (by kernel_rfl) (fun K hK => ?_)
          unfold bareOp
          go_wp2_with (go_at_call 42; refine (pow_ok P Q G y x0 r0 _ HH.out ha0 haP UX0.out HR0.out).mono ?_; rintro e w8 ⟨rfl, hb8⟩)
          replace F_g := Lib.hid (F_g.out.keep hb8)
          replace HBW := Lib.hid (HBW.out.trans (hb8.mono HBW.out.size))
          replace hS := And.intro (F_g.out).s (HC0.out _ HBW.out)
          clear hb8
          refine hK.out _ _ (fun _ => hS) ?_
          clear hK K
          try simp only [Act.put, List.setIfInBounds_toArray, List.set_cons_zero, List.set_cons_succ]
          refine wpAnyB_takeP (i := 6) (some 96) (Op.move (Operand.tmp 102)) 39 (v := ?_) ⟨_, rfl, rfl, rfl, rfl, rfl⟩ (by kernel_rfl) (by kernel_rfl) (by kernel_rfl) (by kernel_rfl) (fun _ _ _ h => h) (fun _ => hS) (fun w' => ?_) ?_
          rotate_left
          · unfold bareOp
            go_simp
            try with_reducible rfl
          simp only [Act.put, List.setIfInBounds_toArray, List.set_cons_zero, List.set_cons_succ]
          refine wpAnyB_takeP (i := 7) (some 103) (Op.extract (Operand.tmp 96) 0) 22 (v := ?_) ⟨_, rfl, rfl, rfl, rfl, rfl⟩ (by kernel_rfl) (by kernel_rfl) (by kernel_rfl) (by kernel_rfl) (fun _ _ _ h => h) (fun _ => hS) (fun w' => ?_) ?_
          rotate_left
          · unfold bareOp
            go_simp
            try with_reducible rfl
          simp only [Act.put, List.setIfInBounds_toArray, List.set_cons_zero, List.set_cons_succ]
          refine wpAnyB_takeP (i := 8) (some 104) (Op.extract (Operand.tmp 96) 1) 30 (v := ?_) ⟨_, rfl, rfl, rfl, rfl, rfl⟩ (by kernel_rfl) (by kernel_rfl) (by kernel_rfl) (by kernel_rfl) (fun _ _ _ h => h) (fun _ => hS) (fun w' => ?_) ?_
          rotate_left
          · unfold bareOp
            go_simp
            try with_reducible rfl
          simp only [Act.put, List.setIfInBounds_toArray, List.set_cons_zero, List.set_cons_succ]
          refine wpAnyB_takeP (i := 9) (some 24) (Op.assign (Operand.tmp 103)) 22 (v := ?_) ⟨_, rfl, rfl, rfl, rfl, rfl⟩ (by kernel_rfl) (by kernel_rfl) (by kernel_rfl) (by kernel_rfl) (fun _ _ _ h => h) (fun _ => hS) (fun w' => ?_) ?_
          rotate_left
          · unfold bareOp
            go_simp
            try with_reducible rfl
          simp only [Act.put, List.setIfInBounds_toArray, List.set_cons_zero, List.set_cons_succ]
          refine wpAnyB_only (i := 10) (some 25) (Op.assign (Operand.tmp 104)) 30 ⟨_, rfl, rfl, rfl, rfl, rfl⟩ (by kernel_rfl) (fun K hK => ?_)
          unfold bareOp
          go_wp2_with fail
          refine hK.out _ _ (fun h => absurd (h.symm.trans (by kernel_rfl : _ = true)) (by decide)) ?_
          clear hK K
          try simp only [Act.put, List.setIfInBounds_toArray, List.set_cons_zero, List.set_cons_succ]
          refine wpAnyB_done (by kernel_rfl) ?_ _
          clear hS
          go_wp2_with fail
          refine (is_yes r0 _).mono ?_
          rintro e w10 ⟨rfl, rfl⟩
          go_wp2_with fail
          go_ret
          exact ⟨rfl, HBW.out⟩


set_option maxRecDepth 100000 in
theorem lifted (os : Os) (started : os.Started) (H : Type) (enc : TypeId × Value → H) :
    ReturnsInHanded {} Try.checked os 8 .any (Rows.shamirRaisesSpec.pre6 enc Try.prog Try.f8 Rows.shamirRaisesRow.domain false) (Rows.shamirRaisesSpec.post enc Try.prog Try.f8 false true false false) := by
  refine returnsInHanded_of_change (C := Try.checked) own started (by kernel_rfl) Try.func8
    (ChangeSpec.witness6 (enc := enc) (C := Try.checked) false ⟨#[], #[.agg #[.int .u64 0, .int .u64 0, .int .u64 0], .slice none 0 0, .int .i64 0, .int .u8 0, .int .u64 0], []⟩ 8 (by kernel_rfl) (by kernel_rfl) (by kernel_rfl) (by kernel_rfl)) ?_
  intro W base args ds gs before hval0 hW _ _
  have hval : ∀ (j : Nat) t v, Try.f8.params[j]? = some t → args[j]? = some v → Value.okWide Try.prog W .any base t v := hval0
  have hW' := hW
  obtain ⟨p, q, hA0, hV, rfl, hfz, hnd⟩ := hW
  have hA : DataW.TrodAll enc Try.prog W 0 (fun _ => true) true Try.f8.params.toList args.toList ds p := hA0
  rw [Try.params8] at hA hval
  have hK := hA
  obtain ⟨v0, vs0, d0, ds0, p0, q0, hargs, rfl, rfl, h0, r0⟩ := trodAll_cons hA
  obtain ⟨v1, vs1, d1, ds1, p1, q1, rfl, rfl, rfl, h1, r1⟩ := trodAll_cons r0
  obtain ⟨v2, vs2, d2, ds2, p2, q2, rfl, rfl, rfl, h2, r2⟩ := trodAll_cons r1
  obtain ⟨v3, vs3, d3, ds3, p3, q3, rfl, rfl, rfl, h3, r3⟩ := trodAll_cons r2
  obtain ⟨v4, vs4, d4, ds4, p4, q4, rfl, rfl, rfl, h4, r4⟩ := trodAll_cons r3
  obtain ⟨rfl, rfl, rfl⟩ := trodAll_nil r4
  obtain rfl : args = #[v0, v1, v2, v3, v4] := by cases args; simp_all
  obtain ⟨rfl, rfl⟩ := trodVars_none hV
  obtain ⟨P, Q, G, rfl, uP, uQ, uG⟩ := open_group (hval 0 24 v0 rfl rfl) h0
  obtain ⟨a, n, c, xs, rfl, hS, hx, hc, hd⟩ := open_u64s (hval 1 25 v1 rfl rfl) h1
  obtain ⟨t, rfl, tl, tu⟩ := open_i64 (hval 2 3 v2 rfl rfl) h2
  obtain ⟨m, rfl, m0, m8⟩ := open_u8 (hval 3 5 v3 rfl rfl) h3
  obtain ⟨y, rfl, uy⟩ := open_u64 (hval 4 22 v4 rfl rfl) h4
  clear hA0 hval0
  refine (walk P Q G a n c xs t m y W uP uQ uG hS hx hc hd tl tu m0 m8 uy).mono fun e W' ⟨he, bel⟩ => ?_
  subst he
  exact ⟨_, rfl, _, _, _, [], _, [], hW', trodAll_mk1 (shut_bool Try.underlying4 _), trodAll_stays laidOut (by kernel_rfl) hK bel, rfl, bel.frame _, fun h => by cases h⟩

theorem over : Rows.shamirRaisesRow.holds Try.pinned (OpenSpec.ofChange Rows.shamirRaisesSpec) :=
  OpenClaim.holds_of_wide 8 Try.f8 rfl rfl rfl rfl rfl rfl rfl ⟨rfl, rfl, rfl, rfl, rfl⟩ rfl rfl rfl rfl rfl (by kernel_rfl) Try.func8 (by kernel_rfl)
    (of_decide_eq_true (by kernel_rfl)) (by unfold Func.isWrapper; first | (rw [if_pos (by decide +kernel)]; kernel_rfl) | (rw [if_neg (by decide +kernel)]; exact ⟨rfl, rfl⟩))
    (fun os started H enc _ => lifted os started H enc)

theorem proved : Rows.ShamirRaisesSaid := over
#print axioms proved
end Go.Proofs.Ytjfaaicbojnpaaa.lawRaises
