/- TallyParts: the statement: for every input the law returns true, and the arguments read as before. -/
import Derived.Test.YtkjkdfhjfnoalaaGreatDoorTqP
set_option linter.unusedSimpArgs false
set_option linter.unusedVariables false
set_option maxRecDepth 100000
namespace Go.Proofs.YtkjkdfhjfnoalaaGreatDoor.lawParts
open Go Sha Go.ChangeShapes Go.WideShapes Go.ChangeAt Go.RowKit Num
set_option maxHeartbeats 8000000 in
theorem open_res (P Q G t s : Int) (ps : List (Int × Int)) (ns : List Int) : ∃ (T : Int) (N : Nat) (X : List Int) (E : List Eq3) (er : Int), N ≤ ps.length ∧ ∀ w' e, OpenR w' P Q G t s ps ns e →
    ∃ a c b d, e = .returned (.tuple #[.agg #[.int .i64 T, .slice a N c, .slice b N d], .int .i64 er]) ∧ ShI .u64 w' a N X ∧ ShQ w' b N E := by
  by_cases h0 : opChk P Q G t s ps ns = 0
  · refine ⟨t, ps.length, pwI P s ps ps.length, esI P Q G s t ps ns ps.length, opChk P Q G t s ps ns, Nat.le_refl _, fun w' e h => ?_⟩
    obtain ⟨v, rfl, ⟨-, a, c, b, d, rfl, hx, he⟩ | ⟨hn, -⟩⟩ := h
    · exact ⟨a, c, b, d, rfl, hx, he⟩
    · exact absurd h0 hn
  · refine ⟨0, 0, [], [], opChk P Q G t s ps ns, Nat.zero_le _, fun w' e h => ?_⟩
    obtain ⟨v, rfl, ⟨hn, -⟩ | ⟨-, a, c, b, d, rfl, hx, he⟩⟩ := h
    · exact absurd hn h0
    · exact ⟨a, c, b, d, rfl, hx, he⟩
theorem acc_ret (P Q G : Int) (ys : List Int) (ps : List (Int × Int)) (t : Int) (n m : Nat) (xs : List Int) (es : List Eq3) : ∃ (v : Bool) (er : Int), RetB (accChk P Q G ys ps) (accP P Q G ys ps t n m xs es) v er := by
 classical
 by_cases h0 : accChk P Q G ys ps = 0
 · exact ⟨decide (accP P Q G ys ps t n m xs es), 0, .inl ⟨h0, by simp, rfl⟩⟩
 · exact ⟨false, _, .inr ⟨h0, rfl, rfl⟩⟩
set_option maxHeartbeats 8000000 in
theorem walk (P Q G t s : Int) (la : Option Addr) (ln lc : Nat) (ps : List (Int × Int)) (na : Option Addr) (nn nc : Nat) (ns : List Int) (ya : Option Addr) (yn yc : Nat) (ys : List Int) (p : Qt) (w : World) (uP : U64 P) (uQ : U64 Q) (uG : U64 G) (ht : -9223372036854775808 ≤ t ∧ t ≤ 9223372036854775807) (us : U64 s)
    (hS : ShS w la ln ps) (huS : ∀ q, q ∈ ps → U64 q.1 ∧ U64 q.2) (hcS : (la = none → lc = 0) ∧ ln ≤ lc) (hN : ShI .u64 w na nn ns) (huN : ∀ x, x ∈ ns → U64 x) (hcN : na = none → nc = 0) (hlN : nn ≤ nc) (hY : ShI .u64 w ya yn ys) (huY : ∀ x, x ∈ ys → U64 x) (hcY : ya = none → yc = 0) (hlY : yn ≤ yc) (hp : QtIn w p) (hT : Tabs w) :
    Calls Tryz.prog 3 #[(.agg #[.int .u64 P, .int .u64 Q, .int .u64 G]), .int .i64 t, .int .u64 s, .slice la ln lc, .slice na nn nc, .slice ya yn yc, p.v] w fun e w' => e = .returned (.bool true) ∧ Below w.heap.size w w' := by
  have HT := Lh hT
  have HS := Lh hS
  have HUS := Lh huS
  have HN := Lh hN
  have HUN := Lh huN
  have HY := Lh hY
  have HUY := Lh huY
  have HP := Lh hp
  have HLS := Lh hS.len
  have hP := uP.1
  have hQ := uQ.1
  have hG := uG.1
  have t0 := ht.1
  have t1 := ht.2
  clear hT hS huS hN huN hY huY hp hcN hcY hlN hlY uP uQ uG ht
  have hpv : p.v = .agg #[.int .i64 p.t, .slice p.a p.n p.c, .slice p.b p.m p.d] := rfl
  rw [hpv]
  have F_g := Lh (show Cl ((w.alloc (.cells #[.int .u64 P, .int .u64 Q, .int .u64 G] 24)).alloc (.cells #[.int .i64 p.t, .slice p.a p.n p.c, .slice p.b p.m p.d] 29)) (w.heap.size) [.int .u64 P, .int .u64 Q, .int .u64 G] from (Cl.at w [.int .u64 P, .int .u64 Q, .int .u64 G] 24 (w.heap.size) (by simp)).alloc _)
  have F_p := Lh (show Cl ((w.alloc (.cells #[.int .u64 P, .int .u64 Q, .int .u64 G] 24)).alloc (.cells #[.int .i64 p.t, .slice p.a p.n p.c, .slice p.b p.m p.d] 29)) (w.heap.size + 1) [.int .i64 p.t, .slice p.a p.n p.c, .slice p.b p.m p.d] from Cl.at (w.alloc (.cells #[.int .u64 P, .int .u64 Q, .int .u64 G] 24)) [.int .i64 p.t, .slice p.a p.n p.c, .slice p.b p.m p.d] 29 (w.heap.size + 1) (by simp))
  have HBW := Lh (show Below w.heap.size w ((w.alloc (.cells #[.int .u64 P, .int .u64 Q, .int .u64 G] 24)).alloc (.cells #[.int .i64 p.t, .slice p.a p.n p.c, .slice p.b p.m p.d] 29)) from ((Below.refl _ _).alloc (by simp <;> omega) _).alloc (by simp <;> omega) _)
  go_enter Tryz.func3, Tryz.ntmps3
  by_cases h0 : 20 < ln
  case pos =>
   have d0 : (20 : Int) < (ln : Int) := by omega
   have e0 : decide ((20 : Int) < (ln : Int)) = true := decide_eq_true d0
   have q_p_0 := F_p.o.c 0 _ rfl
   have q_p_1 := F_p.o.c 1 _ rfl
   have q_p_2 := F_p.o.c 2 _ rfl
   go_wp2_with fail
   clear q_p_0 q_p_1 q_p_2
   go_ret
   exact ⟨rfl, HBW.o⟩
  case neg =>
  have d0 : ¬ ((20 : Int) < (ln : Int)) := by omega
  have e0 : decide ((20 : Int) < (ln : Int)) = false := decide_eq_false d0
  by_cases h1 : 20 < nn
  case pos =>
   have d1 : (20 : Int) < (nn : Int) := by omega
   have e1 : decide ((20 : Int) < (nn : Int)) = true := decide_eq_true d1
   have q_p_0 := F_p.o.c 0 _ rfl
   have q_p_1 := F_p.o.c 1 _ rfl
   have q_p_2 := F_p.o.c 2 _ rfl
   go_wp2_with fail
   clear q_p_0 q_p_1 q_p_2
   go_ret
   exact ⟨rfl, HBW.o⟩
  case neg =>
  have d1 : ¬ ((20 : Int) < (nn : Int)) := by omega
  have e1 : decide ((20 : Int) < (nn : Int)) = false := decide_eq_false d1
  by_cases h2 : 20 < yn
  case pos =>
   have d2 : (20 : Int) < (yn : Int) := by omega
   have e2 : decide ((20 : Int) < (yn : Int)) = true := decide_eq_true d2
   have q_p_0 := F_p.o.c 0 _ rfl
   have q_p_1 := F_p.o.c 1 _ rfl
   have q_p_2 := F_p.o.c 2 _ rfl
   go_wp2_with fail
   clear q_p_0 q_p_1 q_p_2
   go_ret
   exact ⟨rfl, HBW.o⟩
  case neg =>
  have d2 : ¬ ((20 : Int) < (yn : Int)) := by omega
  have e2 : decide ((20 : Int) < (yn : Int)) = false := decide_eq_false d2
  have q_p_0 := F_p.o.c 0 _ rfl
  have q_p_1 := F_p.o.c 1 _ rfl
  have q_p_2 := F_p.o.c 2 _ rfl
  go_wp2_with fail
  clear q_p_0 q_p_1 q_p_2
  refine (rGreatPart_any (p := p) _).mono ?_
  rintro e w1 ⟨rfl, hb1⟩
  replace F_g := Lh (F_g.o.keep hb1)
  replace F_p := Lh (F_p.o.keep hb1)
  replace HBW := Lh (HBW.o.trans (hb1.mono HBW.o.size))
  clear hb1
  obtain ⟨gp, hgp⟩ : ∃ gp, (decide (20 < p.n) || decide (20 < p.m)) = gp := ⟨_, rfl⟩
  rw [hgp]
  cases gp with
  | true =>
   go_wp2_with fail
   go_ret
   exact ⟨rfl, HBW.o⟩
  | false =>
   clear hgp d0 e0 d1 e1 d2 e2
   go_wp2_with fail
   refine (stwin_any _ (HS.o.keep HBW.o) hcS.1 (by omega)).mono ?_
   rintro e w2 ⟨oa, oc, rfl, hso, hb2⟩
   have HO := Lh hso
   clear hso
   replace F_g := Lh (F_g.o.keep hb2)
   replace F_p := Lh (F_p.o.keep hb2)
   replace HBW := Lh (HBW.o.trans (hb2.mono HBW.o.size))
   clear hb2
   have q_g_0 := F_g.o.c 0 _ rfl
   have q_g_1 := F_g.o.c 1 _ rfl
   have q_g_2 := F_g.o.c 2 _ rfl
   go_wp2_with fail
   clear q_g_0 q_g_1 q_g_2
   obtain ⟨T, N, X, E, er, hN, ho⟩ := open_res P Q G t s ps ns
   have HOR := Lh ho
   have HN1 := Lh hN
   clear ho hN
   refine ((tOpen_any _ (HT.o.below HBW.o) hP hQ hG t0 t1 us HO.o HUS.o (HN.o.keep HBW.o) HUN.o)).mono ?_
   rintro e w3 ⟨hr3, hb3⟩
   obtain ⟨a3, c3, b3, d3, rfl, hx3, he3⟩ := HOR.o _ _ hr3
   clear hr3
   have HX3 := Lh hx3
   have HE3 := Lh he3
   clear hx3 he3
   replace HO := Lh (HO.o.keep hb3)
   replace F_g := Lh (F_g.o.keep hb3)
   replace F_p := Lh (F_p.o.keep hb3)
   replace HBW := Lh (HBW.o.trans (hb3.mono HBW.o.size))
   clear hb3
   have hba : Below w3.heap.size w3 (w3.alloc (.cells #[.int .i64 T, .slice a3 N c3, .slice b3 N d3] 29)) := (Below.refl _ _).alloc (Nat.le_refl _) _
   replace F_g := Lh (F_g.o.keep hba)
   replace F_p := Lh (F_p.o.keep hba)
   replace HO := Lh (HO.o.keep hba)
   replace HX3 := Lh (HX3.o.keep hba)
   replace HE3 := Lh (HE3.o.keep hba)
   replace HBW := Lh (HBW.o.trans (hba.mono HBW.o.size))
   clear hba
   have F_a := Lh (show Cl (w3.alloc (.cells #[.int .i64 T, .slice a3 N c3, .slice b3 N d3] 29)) w3.heap.size [.int .i64 T, .slice a3 N c3, .slice b3 N d3] from Cl.at w3 [.int .i64 T, .slice a3 N c3, .slice b3 N d3] 29 w3.heap.size (by simp))
   have q_g_0 := F_g.o.c 0 _ rfl
   have q_g_1 := F_g.o.c 1 _ rfl
   have q_g_2 := F_g.o.c 2 _ rfl
   go_wp2_with fail
   clear q_g_0 q_g_1 q_g_2
   refine ((rOpen_any _ (HT.o.below HBW.o) hP hQ hG t0 t1 us (HS.o.keep HBW.o) HUS.o (HN.o.keep HBW.o) HUN.o)).mono ?_
   rintro e w4 ⟨hr4, hb4⟩
   obtain ⟨a4, c4, b4, d4, rfl, hx4, he4⟩ := HOR.o _ _ hr4
   clear hr4
   have HX4 := Lh hx4
   have HE4 := Lh he4
   clear hx4 he4
   replace HO := Lh (HO.o.keep hb4)
   replace HX3 := Lh (HX3.o.keep hb4)
   replace HE3 := Lh (HE3.o.keep hb4)
   replace F_g := Lh (F_g.o.keep hb4)
   replace F_p := Lh (F_p.o.keep hb4)
   replace F_a := Lh (F_a.o.keep hb4)
   replace HBW := Lh (HBW.o.trans (hb4.mono HBW.o.size))
   clear hb4
   clear HOR
   have hba : Below w4.heap.size w4 (w4.alloc (.cells #[.int .i64 T, .slice a4 N c4, .slice b4 N d4] 29)) := (Below.refl _ _).alloc (Nat.le_refl _) _
   replace F_g := Lh (F_g.o.keep hba)
   replace F_p := Lh (F_p.o.keep hba)
   replace F_a := Lh (F_a.o.keep hba)
   replace HO := Lh (HO.o.keep hba)
   replace HX3 := Lh (HX3.o.keep hba)
   replace HE3 := Lh (HE3.o.keep hba)
   replace HX4 := Lh (HX4.o.keep hba)
   replace HE4 := Lh (HE4.o.keep hba)
   replace HBW := Lh (HBW.o.trans (hba.mono HBW.o.size))
   clear hba
   have F_b := Lh (show Cl (w4.alloc (.cells #[.int .i64 T, .slice a4 N c4, .slice b4 N d4] 29)) w4.heap.size [.int .i64 T, .slice a4 N c4, .slice b4 N d4] from Cl.at w4 [.int .i64 T, .slice a4 N c4, .slice b4 N d4] 29 w4.heap.size (by simp))
   obtain ⟨va, ea, hra⟩ := acc_ret P Q G ys ps p.t p.n p.m p.xs p.es
   have HRA := Lh hra
   clear hra
   have q_g_0 := F_g.o.c 0 _ rfl
   have q_g_1 := F_g.o.c 1 _ rfl
   have q_g_2 := F_g.o.c 2 _ rfl
   have q_p_0 := F_p.o.c 0 _ rfl
   have q_p_1 := F_p.o.c 1 _ rfl
   have q_p_2 := F_p.o.c 2 _ rfl
   go_wp2_with fail
   clear q_g_0 q_g_1 q_g_2 q_p_0 q_p_1 q_p_2
   refine ((tAccept_any _ (HT.o.below HBW.o) hP hQ hG (HY.o.keep HBW.o) HUY.o HO.o HUS.o HP.o.t0 HP.o.t1 (HP.o.h1.keep HBW.o) HP.o.u1 (HP.o.h2.keep HBW.o) HP.o.u2 HRA.o)).mono ?_
   rintro e w5 ⟨rfl, hb5⟩
   replace HO := Lh (HO.o.keep hb5)
   replace HX3 := Lh (HX3.o.keep hb5)
   replace HE3 := Lh (HE3.o.keep hb5)
   replace HX4 := Lh (HX4.o.keep hb5)
   replace HE4 := Lh (HE4.o.keep hb5)
   replace F_g := Lh (F_g.o.keep hb5)
   replace F_p := Lh (F_p.o.keep hb5)
   replace F_a := Lh (F_a.o.keep hb5)
   replace F_b := Lh (F_b.o.keep hb5)
   replace HBW := Lh (HBW.o.trans (hb5.mono HBW.o.size))
   clear hb5
   have q_g_0 := F_g.o.c 0 _ rfl
   have q_g_1 := F_g.o.c 1 _ rfl
   have q_g_2 := F_g.o.c 2 _ rfl
   have q_p_0 := F_p.o.c 0 _ rfl
   have q_p_1 := F_p.o.c 1 _ rfl
   have q_p_2 := F_p.o.c 2 _ rfl
   go_wp2_with fail
   clear q_g_0 q_g_1 q_g_2 q_p_0 q_p_1 q_p_2
   refine ((rAccept_any _ (HT.o.below HBW.o) hP hQ hG (HY.o.keep HBW.o) HUY.o (HS.o.keep HBW.o) HUS.o HP.o.t0 HP.o.t1 (HP.o.h1.keep HBW.o) HP.o.u1 (HP.o.h2.keep HBW.o) HP.o.u2 HRA.o)).mono ?_
   rintro e w6 ⟨rfl, hb6⟩
   replace HO := Lh (HO.o.keep hb6)
   replace HX3 := Lh (HX3.o.keep hb6)
   replace HE3 := Lh (HE3.o.keep hb6)
   replace HX4 := Lh (HX4.o.keep hb6)
   replace HE4 := Lh (HE4.o.keep hb6)
   replace F_g := Lh (F_g.o.keep hb6)
   replace F_p := Lh (F_p.o.keep hb6)
   replace F_a := Lh (F_a.o.keep hb6)
   replace F_b := Lh (F_b.o.keep hb6)
   replace HBW := Lh (HBW.o.trans (hb6.mono HBW.o.size))
   clear hb6
   have q_a_0 := F_a.o.c 0 _ rfl
   have q_a_1 := F_a.o.c 1 _ rfl
   have q_a_2 := F_a.o.c 2 _ rfl
   have q_b_0 := F_b.o.c 0 _ rfl
   have q_b_1 := F_b.o.c 1 _ rfl
   have q_b_2 := F_b.o.c 2 _ rfl
   go_wp2_with fail
   clear q_a_0 q_a_1 q_a_2 q_b_0 q_b_1 q_b_2
   refine ((rSamePart_any _ HX3.o HE3.o HX4.o HE4.o (by have := HN1.o; have := HLS.o; omega) (by have := HN1.o; have := HLS.o; omega))).mono ?_
   rintro e w7 ⟨rfl, hb7⟩
   replace HO := Lh (HO.o.keep hb7)
   replace F_g := Lh (F_g.o.keep hb7)
   replace F_p := Lh (F_p.o.keep hb7)
   replace F_a := Lh (F_a.o.keep hb7)
   replace F_b := Lh (F_b.o.keep hb7)
   replace HBW := Lh (HBW.o.trans (hb7.mono HBW.o.size))
   clear hb7
   go_wp2_with fail
   refine ((ssame_any _ HO.o (HS.o.keep HBW.o) (by omega))).mono ?_
   rintro e w8 ⟨rfl, hb8⟩
   replace F_g := Lh (F_g.o.keep hb8)
   replace F_p := Lh (F_p.o.keep hb8)
   replace F_a := Lh (F_a.o.keep hb8)
   replace F_b := Lh (F_b.o.keep hb8)
   replace HBW := Lh (HBW.o.trans (hb8.mono HBW.o.size))
   clear hb8
   go_wp2_with fail
   go_ret
   exact ⟨rfl, HBW.o⟩
theorem lifted (os : Os) (started : os.Started) (H : Type) (enc : TypeId × Value → H) :
    ReturnsInHanded {} Tryz.checked os 3 .any (fun w args => (Rows.tallyPartsSpec.pre enc Tryz.prog Tryz.f3 [] false w args ∧ laidMetH Tryz.prog laidL w) ∧ sizedMet enc Tryz.prog Tryz.f3 (OpenSpec.ofChange Rows.tallyPartsSpec) false w args) (Rows.tallyPartsSpec.post enc Tryz.prog Tryz.f3 false true false false) := by
  refine returnsInHanded_of_change_and (C := Tryz.checked) (X := fun w _ => laidMetH Tryz.prog laidL w) (fun _ _ _ hh h => h.of_heap hh) own started (by kernel_rfl) Tryz.func3
    (ChangeSpec.witness_shaped (enc := enc) (C := Tryz.checked) (os := os) (X := fun w _ => laidMetH Tryz.prog laidL w) false (World.doorLaid Tryz.prog 19 os) #[.agg #[.int .u64 0, .int .u64 0, .int .u64 0], .int .i64 0, .int .u64 0, .slice none 0 0, .slice none 0 0, .slice none 0 0, .agg #[.int .i64 0, .slice none 0 0, .slice none 0 0]] 8 rfl (World.shaped_of_RefB (by kernel_rfl) (by kernel_rfl)) (by kernel_rfl) (by kernel_rfl) (by kernel_rfl) (door_met os _)) ?_
  intro W base args ds gs before hval0 hW _ _ hL _
  have hT := tabs_of_laid hL
  clear hL
  have hval : ∀ (j : Nat) t v, Tryz.f3.params[j]? = some t → args[j]? = some v → Value.okWide Tryz.prog W .any base t v := hval0
  have hW' := hW
  obtain ⟨p, q, hA0, hV, rfl, hfz, hnd⟩ := hW
  have hA : DataW.TrodAll enc Tryz.prog W 0 (fun _ => true) true Tryz.f3.params.toList args.toList ds p := hA0
  rw [Tryz.params3] at hA hval
  have hK := hA
  obtain ⟨v0, vs0, d0, ds0, p0, q0, hargs, rfl, rfl, h0, r0⟩ := trodAll_cons hA
  obtain ⟨v1, vs1, d1, ds1, p1, q1, rfl, rfl, rfl, h1, r1⟩ := trodAll_cons r0
  obtain ⟨v2, vs2, d2, ds2, p2, q2, rfl, rfl, rfl, h2, r2⟩ := trodAll_cons r1
  obtain ⟨v3, vs3, d3, ds3, p3, q3, rfl, rfl, rfl, h3, r3⟩ := trodAll_cons r2
  obtain ⟨v4, vs4, d4, ds4, p4, q4, rfl, rfl, rfl, h4, r4⟩ := trodAll_cons r3
  obtain ⟨v5, vs5, d5, ds5, p5, q5, rfl, rfl, rfl, h5, r5⟩ := trodAll_cons r4
  obtain ⟨v6, vs6, d6, ds6, p6, q6, rfl, rfl, rfl, h6, r6⟩ := trodAll_cons r5
  obtain ⟨rfl, rfl, rfl⟩ := trodAll_nil r6
  obtain rfl : args = #[v0, v1, v2, v3, v4, v5, v6] := by cases args; simp_all
  obtain ⟨rfl, rfl⟩ := trodVars_none hV
  obtain ⟨P, Q, G, rfl, uP, uQ, uG⟩ := open_group (hval 0 24 v0 rfl rfl) h0
  obtain ⟨t, rfl, ht⟩ := open_i64 (hval 1 3 v1 rfl rfl) h1
  obtain ⟨s, rfl, us⟩ := open_u64 (hval 2 22 v2 rfl rfl) h2
  obtain ⟨la, ln, lc, ps, rfl, hS, huS, hcS⟩ := open_sealeds (hval 3 25 v3 rfl rfl) h3
  obtain ⟨na, nn, nc, ns, rfl, hN, huN, hcN, hlN⟩ := open_u64s (hval 4 26 v4 rfl rfl) h4
  obtain ⟨ya, yn, yc, ys, rfl, hY, huY, hcY, hlY⟩ := open_u64s (hval 5 26 v5 rfl rfl) h5
  obtain ⟨p, rfl, hp⟩ := open_part (hval 6 29 v6 rfl rfl) h6
  clear hA0 hval0
  refine (walk P Q G t s la ln lc ps na nn nc ns ya yn yc ys p W uP uQ uG ht us hS huS hcS hN huN hcN hlN hY huY hcY hlY hp hT).mono fun e W' ⟨he, bel⟩ => ?_
  subst he
  exact ⟨_, rfl, _, _, _, [], _, [], hW', trodAll_mk1 (shut_bool Tryz.underlying4 _), trodAll_stays laidOut (by kernel_rfl) hK bel, rfl, bel.frame _, fun h => by cases h⟩
theorem over : Rows.tallyPartsRow.holds Tryz.pinned (OpenSpec.ofChange Rows.tallyPartsSpec) :=
  OpenClaim.holds_of_wide 3 Tryz.f3 rfl rfl rfl rfl rfl rfl rfl ⟨rfl, rfl, rfl, rfl, rfl⟩ rfl rfl rfl rfl rfl (by kernel_rfl) Tryz.func3 (by kernel_rfl)
    (of_decide_eq_true (by kernel_rfl)) (by unfold Func.isWrapper; first | (rw [if_pos (by decide +kernel)]; kernel_rfl) | (rw [if_neg (by decide +kernel)]; exact ⟨rfl, rfl⟩))
    (fun os started H enc _ => lifted os started H enc)
theorem proved : Rows.TallyPartsCardSaid :=
  Claim7.holds_tied_plain_at .later [] [.data, .data] true (true, "3c6d2c8d6829cb7ef5c4097403d45e6d5a177d239d798561b03fe4ca4191705f") false
    over (fun _ h => by cases h) (by kernel_rfl) (fun _ h => by cases h) tallyParts_row_tie rfl ⟨rfl, rfl⟩ (by kernel_rfl) rfl
    (fun f fn hf hfn => by
      obtain rfl : f = 3 := Option.some.inj ((show Tryz.prog.funcNamed "suffrage/suffragelaw37.TallyParts" = some 3 by kernel_rfl).symm.trans hf) |>.symm
      obtain rfl : fn = Tryz.f3 := (Option.some.inj (Tryz.func3.symm.trans hfn)).symm
      exact ⟨by kernel_rfl, fun j t ht => by
       rw [Tryz.params3] at ht
       have hm : t ∈ ([24, 3, 22, 25, 26, 26, 29] : List TypeId) := by simpa using Array.mem_of_getElem? ht
       have hall : (([24, 3, 22, 25, 26, 26, 29] : List TypeId).all fun u => !Tryz.prog.wantsStandIn u) = true := by kernel_rfl
       exact (show Tryz.prog.wantsStandIn t = false by simpa using List.all_eq_true.1 hall t hm)⟩)
    (by kernel_rfl)
#print axioms proved
end Go.Proofs.YtkjkdfhjfnoalaaGreatDoor.lawParts
