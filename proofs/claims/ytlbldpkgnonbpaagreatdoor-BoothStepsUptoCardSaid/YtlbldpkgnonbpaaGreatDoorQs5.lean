/- The reference's Valid, take. -/
import Derived.Test.YtlbldpkgnonbpaaGreatDoorQs4
set_option linter.unusedSimpArgs false
set_option linter.unusedVariables false
set_option maxRecDepth 100000
namespace Go.Proofs.YtlbldpkgnonbpaaGreatDoor
open Go Go.RowKit Num Sha
set_option maxHeartbeats 16000000 in
theorem rValid36_any {P Q G y n er : Int} {one : Bool} {B : Bo} (w : World) (hT : Tabs w) (hP : 0 ≤ P) (hQ : 0 ≤ Q) (hG : 0 ≤ G) (hy : 0 ≤ y) (hB : BoIn w B) (hs : BoSm B) (hv : BvS P Q G y n one B er) :
 Calls Tryz.prog 23 #[.agg #[υ P, υ Q, υ G], υ y, .int .i64 n, .bool one, B.v] w fun e w' => e = .returned (.int .i64 er) ∧ Below w.heap.size w w' := by
 have HT := Lh hT
 have HB := Lh hB
 have HS := Lh hs
 have HC := Lh hv
 clear hT hB hs hv
 unfold Bo.v
 obtain ⟨F_g, F_b, HBW⟩ := bx2 w [υ P, υ Q, υ G] 24 [.slice B.a B.n B.c, .slice B.b B.m B.d, .slice B.e B.k B.f] 55
 go_enter Tryz.func23, Tryz.ntmps23
 obtain ⟨qg0, qg1, qg2⟩ := F_g.o.k3
 obtain ⟨qb0, qb1, qb2⟩ := F_b.o.k3
 go_wp2_with fail
 clear qg0 qg1 qg2 qb0 qb1 qb2
 refine (rAsked36_any _ hP hQ hG hy).mono ?_
 rintro e w1 ⟨rfl, hb1⟩
 replace F_g := Lh (F_g.o.keep hb1)
 replace F_b := Lh (F_b.o.keep hb1)
 replace HBW := Kt HBW hb1
 clear hb1
 obtain ⟨k, hk⟩ : ∃ k, chkB P Q G y n = k := ⟨_, rfl⟩
 have HK := Lh hk
 have hC := HC.o
 unfold BvS at hC
 rw [hk] at hC ⊢
 clear hk HC
 rcases hC with ⟨h1, rfl⟩ | ⟨rfl, h1⟩
 · have hd : (er == (0 : Int)) = false := beq_eq_false_iff_ne.2 h1
   go_wp2_with fail
   go_ret
   exact ⟨rfl, HBW.o⟩
 · obtain ⟨hH, hyp, hn1, hn2⟩ := chkB_ok HK.o
   have HH := Lh hH
   have HYP := Lh hyp
   clear hH hyp
   obtain ⟨j, rfl⟩ : ∃ j : Nat, n = (j : Int) := ⟨n.toNat, by omega⟩
   simp only [Int.toNat_natCast] at h1
   obtain ⟨qg0, qg1, qg2⟩ := F_g.o.k3
   obtain ⟨qb0, qb1, qb2⟩ := F_b.o.k3
   go_wp2_with fail
   clear qg0 qg1 qg2 qb0 qb1 qb2
   obtain ⟨b, hb⟩ := Prop.bool (boothP P Q G y j one B)
   have HBO := Lh hb
   have HE := Lh h1
   refine (rGood_any _ (HT.o.below HBW.o) HH.o hy HYP.o (by omega) (by omega) (HB.o.keep HBW.o) HS.o hb).mono ?_
   rintro e w2 ⟨rfl, hb2⟩
   replace F_g := Lh (F_g.o.keep hb2)
   replace F_b := Lh (F_b.o.keep hb2)
   replace HBW := Kt HBW hb2
   clear hb2
   clear hb h1
   cases b with
   | true =>
    obtain rfl : er = 0 := by
     rcases HE.o with ⟨h, -⟩ | ⟨-, h⟩
     · exact absurd (HBO.o.1 rfl) h
     · exact h
    go_wp2_with fail
    go_ret
    exact ⟨rfl, HBW.o⟩
   | false =>
    obtain rfl : er = 8 := by
     rcases HE.o with ⟨-, h⟩ | ⟨h, -⟩
     · exact h
     · have := HBO.o.2 h; cases this
    go_wp2_with fail
    go_ret
    exact ⟨rfl, HBW.o⟩
set_option maxHeartbeats 16000000 in
theorem rTake_any {P Q G y n k er : Int} {one : Bool} {B : Bo} {V : Vt} (w : World) (hT : Tabs w) (hP : 0 ≤ P) (hQ : 0 ≤ Q) (hG : 0 ≤ G) (hy : 0 ≤ y) (hB : BoIn w B) (hs : BoSm B) (hV : VtIn w V) (ha : AdmS P Q G y n one B V k er) :
 Calls Tryz.prog 49 #[.agg #[υ P, υ Q, υ G], υ y, .int .i64 n, .bool one, B.v, V.v] w fun e w' => e = .returned (.int .i64 er) ∧ Below w.heap.size w w' := by
 have HT := Lh hT
 have HB := Lh hB
 have HS := Lh hs
 have HV := Lh hV
 have HC := Lh (show ∃ e1, BvS P Q G y n one B e1 ∧ ((e1 ≠ 0 ∧ er = e1) ∨ (e1 = 0 ∧ chkB P Q G y n = 0 ∧ boothP P Q G y n.toNat one B ∧ ((¬ goodV P Q G y n.toNat one V ∧ er = 360) ∨ (goodV P Q G y n.toNat one V ∧ ((V.cd ∈ cds (B.l ++ B.l') ∧ er = 361) ∨ (V.cd ∉ cds (B.l ++ B.l') ∧ er = 0)))))) by
  rcases ha with ⟨h1, -, h2⟩ | ⟨h1, ⟨h2, -, h3⟩ | ⟨h2, h3⟩⟩
  · exact ⟨_, .inl ⟨h1, rfl⟩, .inl ⟨h1, h2⟩⟩
  · exact ⟨8, .inr ⟨h1, .inl ⟨h2, rfl⟩⟩, .inl ⟨by decide, h3⟩⟩
  · refine ⟨0, .inr ⟨h1, .inr ⟨h2, rfl⟩⟩, .inr ⟨rfl, h1, h2, ?_⟩⟩
    rcases h3 with ⟨h4, -, h5⟩ | ⟨h4, ⟨h5, -, h6⟩ | ⟨h5, -, h6⟩⟩
    · exact .inl ⟨h4, h5⟩
    · exact .inr ⟨h4, .inl ⟨h5, h6⟩⟩
    · exact .inr ⟨h4, .inr ⟨h5, h6⟩⟩)
 clear hT hB hs hV ha
 unfold Bo.v Vt.v
 obtain ⟨F_g, F_b, F_v, HBW⟩ := bx3 w [υ P, υ Q, υ G] 24 [.slice B.a B.n B.c, .slice B.b B.m B.d, .slice B.e B.k B.f] 55 V.cl 33
 obtain ⟨e1, hbv, hC⟩ := HC.o
 have HE := Lh hC
 clear hC HC
 go_enter Tryz.func49, Tryz.ntmps49
 obtain ⟨qg0, qg1, qg2⟩ := F_g.o.k3
 obtain ⟨qb0, qb1, qb2⟩ := F_b.o.k3
 go_wp2_with fail
 clear qg0 qg1 qg2 qb0 qb1 qb2
 refine (rValid36_any _ (HT.o.below HBW.o) hP hQ hG hy (HB.o.keep HBW.o) HS.o hbv).mono ?_
 rintro e w1 ⟨rfl, hb1⟩
 replace F_g := Lh (F_g.o.keep hb1)
 replace F_b := Lh (F_b.o.keep hb1)
 replace F_v := Lh (F_v.o.keep hb1)
 replace HBW := Kt HBW hb1
 clear hb1
 clear hbv
 by_cases h1 : e1 = 0
 case neg =>
  have hd : (e1 == (0 : Int)) = false := beq_eq_false_iff_ne.2 h1
  have hd2 : (e1 != (0 : Int)) = true := by rw [bne, hd]; rfl
  obtain rfl : er = e1 := by
   rcases HE.o with ⟨-, h⟩ | ⟨h, -⟩
   · exact h
   · exact absurd h h1
  go_wp2_with fail
  go_ret
  exact ⟨rfl, HBW.o⟩
 subst h1
 obtain ⟨hK, hBo, hE⟩ : chkB P Q G y n = 0 ∧ boothP P Q G y n.toNat one B ∧ ((¬ goodV P Q G y n.toNat one V ∧ er = 360) ∨ (goodV P Q G y n.toNat one V ∧ ((V.cd ∈ cds (B.l ++ B.l') ∧ er = 361) ∨ (V.cd ∉ cds (B.l ++ B.l') ∧ er = 0)))) := by
  rcases HE.o with ⟨h, -⟩ | ⟨-, h⟩
  · exact absurd rfl h
  · exact h
 obtain ⟨hH, -, hn1, hn2⟩ := chkB_ok hK
 have HH := Lh hH
 obtain ⟨j, rfl⟩ : ∃ j : Nat, n = (j : Int) := ⟨n.toNat, by omega⟩
 simp only [Int.toNat_natCast] at hE hBo
 have HBO := Lh hBo
 replace HE := Lh hE
 clear hH hK hBo hE
 have HNG := Lh (show ¬ goodV P Q G y j one V → er = 360 from fun h => by
  rcases HE.o with ⟨-, h2⟩ | ⟨h2, -⟩
  · exact h2
  · exact absurd h2 h)
 by_cases hon : V.one = one
 case neg =>
  have hb0 : (V.one == one) = false := beq_eq_false_iff_ne.2 hon
  have hb1 : (V.one != one) = true := by rw [bne, hb0]; rfl
  obtain rfl : er = 360 := HNG.o (fun h => hon h.1)
  obtain ⟨⟨qv0, qv1, qv2, qv3, qv4, qv5, qv6, qv7, qv8, qv9, qva⟩, -⟩ := F_v.o.k11
  obtain ⟨qg0, qg1, qg2⟩ := F_g.o.k3
  go_wp2_with fail
  clear qv0 qv1 qv2 qv3 qv4 qv5 qv6 qv7 qv8 qv9 qva qg0 qg1 qg2
  go_ret
  exact ⟨rfl, HBW.o⟩
 have HON := Lh hon
 have hb0 : (V.one == one) = true := beq_iff_eq.2 hon
 have hb1 : (V.one != one) = false := by rw [bne, hb0]; rfl
 clear hon
 obtain ⟨b, hb⟩ := Prop.bool (validP P Q G y j V)
 have HVB := Lh hb
 obtain ⟨⟨qv0, qv1, qv2, qv3, qv4, qv5, qv6, qv7, qv8, qv9, qva⟩, -⟩ := F_v.o.k11
 obtain ⟨qg0, qg1, qg2⟩ := F_g.o.k3
 go_wp2_with fail
 clear qv0 qv1 qv2 qv3 qv4 qv5 qv6 qv7 qv8 qv9 qva qg0 qg1 qg2
 refine (rMay_any (V := V) _ (HT.o.below HBW.o) HH.o hy (by omega) (by omega) (HV.o.keep HBW.o) hb).mono ?_
 rintro e w2 ⟨rfl, hb2⟩
 replace F_g := Lh (F_g.o.keep hb2)
 replace F_b := Lh (F_b.o.keep hb2)
 replace F_v := Lh (F_v.o.keep hb2)
 replace HBW := Kt HBW hb2
 clear hb2
 clear hb hb0 hb1
 cases b with
 | false =>
  obtain rfl : er = 360 := HNG.o (fun h => by have := HVB.o.2 h.2; cases this)
  go_wp2_with fail
  go_ret
  exact ⟨rfl, HBW.o⟩
 | true =>
  have HVV := Lh (show validP P Q G y j V by first | exact HVB.o.1 rfl | exact HVB.o.1 trivial)
  have HES := Lh (show (V.cd ∈ cds (B.l ++ B.l') ∧ er = 361) ∨ (V.cd ∉ cds (B.l ++ B.l') ∧ er = 0) by
   rcases HE.o with ⟨h2, -⟩ | ⟨-, h2⟩
   · exact absurd ⟨HON.o, HVV.o⟩ h2
   · exact h2)
  obtain ⟨v2, hv2⟩ := Prop.bool (V.cd ∈ cds (B.l ++ B.l'))
  have HV2 := Lh hv2
  clear hv2
  go_wp2_with fail
  replace F_g := Lh F_g.o.drew
  replace F_b := Lh F_b.o.drew
  replace F_v := Lh F_v.o.drew
  replace HBW := Lh HBW.o.drew
  have hS0 := And.intro F_b.o F_v.o
  refine wp_region_stage 3 (fun w' => Cl w' (w.heap.size + 1) [.slice B.a B.n B.c, .slice B.b B.m B.d, .slice B.e B.k B.f] ∧ Cl w' (w.heap.size + 1 + 1) V.cl) (by kernel_rfl) ?_
  refine tkL (i := 0) (some 35) (.load 55 (.tmp 10)) 55 [1, 3] (v := ?_) hS0 (fun w' hSw => ?_) ?_
  rotate_left
  · obtain ⟨t1, t2⟩ := hSw; have k0 := t1.c 0 _ rfl; have k1 := t1.c 1 _ rfl; have k2 := t1.c 2 _ rfl; obtain ⟨⟨q0, q1, q2, q3, q4, q5, q6, q7, q8, q9, q10⟩, -⟩ := t2.k11
    unfold bareOp; go_simp; try with_reducible rfl
  simp only [sY]
  refine tkL (i := 2) (some 37) (.load 33 (.tmp 11)) 33 [3] (v := ?_) hS0 (fun w' hSw => ?_) ?_
  rotate_left
  · obtain ⟨t1, t2⟩ := hSw; have k0 := t1.c 0 _ rfl; have k1 := t1.c 1 _ rfl; have k2 := t1.c 2 _ rfl; obtain ⟨⟨q0, q1, q2, q3, q4, q5, q6, q7, q8, q9, q10⟩, -⟩ := t2.k11
    unfold bareOp; go_simp; try with_reducible rfl
  simp only [sY]
  refine onl (i := 1) (some 36) (.call { callee := .value (.func 43), args := #[.tmp 35], argTypes := #[55] }) 52 (fun K hK => ?_)
  unfold bareOp
  refine OpW.out (wp_of_enter (run_call _ _ _ _ 43 Tryz.func43 (vs := #[B.v]) (by simp only [List.map_toArray, List.map_cons, List.map_nil]; rfl) rfl (by kernel_rfl) (by kernel_rfl)) (rAll_any _ (HB.o.keep HBW.o) (by have := HBO.o.few; omega)) ?_)
  rintro e w3 ⟨⟨v1, rfl, ho⟩, hb⟩
  refine ⟨_, rfl, ?_⟩
  replace F_g := Lh (F_g.o.keep hb)
  replace F_b := Lh (F_b.o.keep hb)
  replace F_v := Lh (F_v.o.keep hb)
  replace HBW := Kt HBW hb
  obtain ⟨a, c, rfl, hL, -, hnc⟩ := ShV.of_owned ho (fun X hX => by
   rcases List.mem_append.1 hX with h | h
   · exact (HB.o.keep HBW.o).h1.ins X h
   · exact (HB.o.keep HBW.o).h2.ins X h)
  obtain ⟨N, hN0⟩ : ∃ N, B.n + B.m = N := ⟨_, rfl⟩
  rw [hN0] at hL ⊢
  have HL := Lh hL
  have HN0 := Lh hN0
  clear ho hL hnc hN0 hb hS0
  have hS0 := And.intro F_b.o F_v.o
  refine hK.o _ _ (fun _ => hS0) ?_
  clear hK K
  try simp only [sY]
  refine onl (i := 3) (some 38) (.call { callee := .value (.func 90), args := #[.tmp 36, .tmp 37], argTypes := #[52, 33] }) 4 (fun K hK => ?_)
  unfold bareOp
  refine OpW.out (wp_of_enter (run_call _ _ _ _ 90 Tryz.func90 (vs := #[.slice a N c, V.v]) (by simp only [List.map_toArray, List.map_cons, List.map_nil]; rfl) rfl (by kernel_rfl) (by kernel_rfl)) (rSeen_any (V := V) _ HL.o (by have := HN0.o; have := HBO.o.few; omega) (fun X hX => by have h := (HBO.o.good X hX).2; exact ⟨by rw [h.1]; omega, by rw [h.2.1]; omega⟩) (HV.o.keep HBW.o) (by have h := HVV.o; exact ⟨by rw [h.1]; omega, by rw [h.2.1]; omega⟩) HV2.o) ?_)
  rintro e w4 ⟨rfl, hb⟩
  refine ⟨_, rfl, ?_⟩
  replace F_g := Lh (F_g.o.keep hb)
  replace F_b := Lh (F_b.o.keep hb)
  replace F_v := Lh (F_v.o.keep hb)
  replace HBW := Kt HBW hb
  clear hb hS0
  have hS0 := And.intro F_b.o F_v.o
  refine hK.o _ _ lt8 ?_
  clear hK K
  try simp only [sY]
  refine wpAnyB_done (by kernel_rfl) ?_ _
  cases v2 with
  | true =>
   obtain rfl : er = 361 := by
    rcases HES.o with ⟨-, h⟩ | ⟨h, -⟩
    · exact h
    · exact absurd (by first | exact HV2.o.1 rfl | exact HV2.o.1 trivial) h
   go_wp2_with fail
   go_ret
   exact ⟨rfl, HBW.o⟩
  | false =>
   obtain rfl : er = 0 := by
    rcases HES.o with ⟨h, -⟩ | ⟨-, h⟩
    · have := HV2.o.2 h; cases this
    · exact h
   go_wp2_with fail
   go_ret
   exact ⟨rfl, HBW.o⟩
open Go Go.RowKit Num Sha
theorem AdmS.exists (P Q G y n : Int) (one : Bool) (B : Bo) (V : Vt) : ∃ k e', AdmS P Q G y n one B V k e' := by
 unfold AdmS
 by_cases h1 : chkB P Q G y n = 0
 · by_cases h2 : boothP P Q G y n.toNat one B
   · by_cases h3 : goodV P Q G y n.toNat one V
     · by_cases h4 : V.cd ∈ cds (B.l ++ B.l')
       · exact ⟨_, _, .inr ⟨h1, .inr ⟨h2, .inr ⟨h3, .inl ⟨h4, rfl, rfl⟩⟩⟩⟩⟩
       · exact ⟨_, _, .inr ⟨h1, .inr ⟨h2, .inr ⟨h3, .inr ⟨h4, rfl, rfl⟩⟩⟩⟩⟩
     · exact ⟨_, _, .inr ⟨h1, .inr ⟨h2, .inl ⟨h3, rfl, rfl⟩⟩⟩⟩
   · exact ⟨_, _, .inr ⟨h1, .inl ⟨h2, rfl, rfl⟩⟩⟩
 · exact ⟨_, _, .inl ⟨h1, rfl, rfl⟩⟩
theorem AdmS.same {P Q G y n : Int} {one : Bool} {B : Bo} {V : Vt} {k e k' e' : Int} (h : AdmS P Q G y n one B V k e) (h' : AdmS P Q G y n one B V k' e') : k = k' ∧ e = e' := by
 rcases h with ⟨a1, rfl, rfl⟩ | ⟨a1, ⟨a2, rfl, rfl⟩ | ⟨a2, ⟨a3, rfl, rfl⟩ | ⟨a3, ⟨a4, rfl, rfl⟩ | ⟨a4, rfl, rfl⟩⟩⟩⟩ <;> rcases h' with ⟨b1, rfl, rfl⟩ | ⟨b1, ⟨b2, rfl, rfl⟩ | ⟨b2, ⟨b3, rfl, rfl⟩ | ⟨b3, ⟨b4, rfl, rfl⟩ | ⟨b4, rfl, rfl⟩⟩⟩⟩ <;> first | exact ⟨rfl, rfl⟩ | contradiction
set_option maxHeartbeats 16000000 in
theorem rCast36_any {P Q G y n : Int} {one : Bool} {B : Bo} {V : Vt} (w : World) (hT : Tabs w) (hP : 0 ≤ P) (hQ : 0 ≤ Q) (hG : 0 ≤ G) (hy : 0 ≤ y) (hB : BoIn w B) (hs : BoSm B) (hV : VtIn w V) (hn9 : V.n ≤ 10000) (hm9 : V.m ≤ 10000) :
 Calls Tryz.prog 17 #[.agg #[υ P, υ Q, υ G], υ y, .int .i64 n, .bool one, B.v, V.v] w (CasR w P Q G y n one B V) := by
 have HT := Lh hT
 have HB := Lh hB
 have HS := Lh hs
 have HV := Lh hV
 clear hT hB hs hV
 have hBs : B.n ≤ 1000 ∧ B.m ≤ 1000 ∧ B.k ≤ 1000 := by have := HS.o.s1; have := HS.o.s2; omega
 unfold Bo.v Vt.v
 obtain ⟨F_g, F_b, F_v, F_o, HBW⟩ := bx4 w [υ P, υ Q, υ G] 24 [.slice B.a B.n B.c, .slice B.b B.m B.d, .slice B.e B.k B.f] 55 V.cl 33 [.slice none 0 0, .slice none 0 0, .slice none 0 0] 55
 go_enter Tryz.func17, Tryz.ntmps17
 obtain ⟨qg0, qg1, qg2⟩ := F_g.o.k3
 obtain ⟨qb0, qb1, qb2⟩ := F_b.o.k3
 obtain ⟨⟨qv0, qv1, qv2, qv3, qv4, qv5, qv6, qv7, qv8, qv9, qva⟩, -⟩ := F_v.o.k11
 go_wp2_with fail
 clear qg0 qg1 qg2 qb0 qb1 qb2 qv0 qv1 qv2 qv3 qv4 qv5 qv6 qv7 qv8 qv9 qva
 obtain ⟨k, e', hA⟩ := AdmS.exists P Q G y n one B V
 refine (rTake_any (V := V) _ (HT.o.below HBW.o) hP hQ hG hy (HB.o.keep HBW.o) HS.o (HV.o.keep HBW.o) hA).mono ?_
 rintro e w1 ⟨rfl, hb1⟩
 have HA := Lh hA
 clear hA
 replace F_g := Lh (F_g.o.keep hb1)
 replace F_b := Lh (F_b.o.keep hb1)
 replace F_v := Lh (F_v.o.keep hb1)
 replace F_o := Lh (F_o.o.keep hb1)
 replace HBW := Kt HBW hb1
 clear hb1
 by_cases he : e' = 0
 case neg =>
  have HE := Lh he
  have hd : (e' == (0 : Int)) = false := beq_eq_false_iff_ne.2 he
  have hd2 : (e' != (0 : Int)) = true := by rw [bne, hd]; rfl
  go_wp2_with (first
   | (refine wpL_storeCl rfl 55 (.tmp 12) (.tmp 37) (w.heap.size + 1 + 1 + 1) 0 _ [.slice none 0 0, .slice none 0 0, .slice none 0 0] [.slice none 0 0, .slice none 0 0, .slice none 0 0] rfl rfl rfl rfl (by kernel_rfl) (by intro u hu; simp at hu; rcases hu with rfl | rfl | rfl <;> rfl) F_o.o (by simp) rfl ?_
      intro w8 hc8 hg8 hz8
      have F_q := Lh hc8
      have HG8 := Lh hg8
      clear hc8 hg8 hz8))
  refine bodyPost_ret (res_booth2 rfl F_q.o _ rfl rfl) rfl ?_
  exact ⟨HBW.o.trans (HG8.o.blw (n := w.heap.size) (by omega) HBW.o.size), k, e', HA.o, .inl ⟨HE.o, rfl⟩⟩
 case pos =>
 subst he
 have hkc := HA.o.count.2.2.2.2
 have hw0 : IntKind.i64.wrap ((B.n : Int) + (B.m : Int)) = (B.n : Int) + (B.m : Int) := IntWalk.i64_in _ (by omega)
 by_cases hk : k = 256
 case pos =>
  have hd : ((B.n : Int) + (B.m : Int) == (256 : Int)) = true := beq_iff_eq.2 (by omega)
  have HK := Lh hk
  clear hkc
  subst hk
  obtain ⟨qb0, qb1, -⟩ := F_b.o.k3
  go_wp2_with (first
   | (refine wpL_storeCl rfl 55 (.tmp 12) (.tmp 37) (w.heap.size + 1 + 1 + 1) 0 _ [.slice none 0 0, .slice none 0 0, .slice none 0 0] [.slice none 0 0, .slice none 0 0, .slice none 0 0] rfl rfl rfl rfl (by kernel_rfl) (by intro u hu; simp at hu; rcases hu with rfl | rfl | rfl <;> rfl) F_o.o (by simp) rfl ?_
      intro w8 hc8 hg8 hz8
      have F_q := Lh hc8
      have HG8 := Lh hg8
      clear hc8 hg8 hz8))
  refine bodyPost_ret (res_booth2 rfl F_q.o _ rfl rfl) rfl ?_
  exact ⟨HBW.o.trans (HG8.o.blw (n := w.heap.size) (by omega) HBW.o.size), _, _, HA.o, .inr ⟨rfl, .inl ⟨rfl, rfl⟩⟩⟩
 case neg =>
 have hd : ((B.n : Int) + (B.m : Int) == (256 : Int)) = false := beq_eq_false_iff_ne.2 (by omega)
 have HK := Lh hk
 clear hk hkc
 obtain ⟨qb0, qb1, qb2⟩ := F_b.o.k3
 go_wp2_with fail
 clear qb0 qb1 qb2
 refine (rTwin_any _ (HB.o.keep HBW.o) HS.o).mono ?_
 rintro e w2 ⟨⟨v1, v2, v3, N1, N2, N3, rfl, hn1, hn2, hn3, hn4, hr1, hr2, hr3⟩, hb2⟩
 have hlt0 := F_o.o.lt
 obtain ⟨n0, hn0⟩ : ∃ n, w1.heap.size = n := ⟨_, rfl⟩
 rw [hn0] at hlt0 hn1 hr1
 obtain ⟨a1, c1, rfl⟩ := hr1.slice
 obtain ⟨a2, c2, rfl⟩ := hr2.slice
 obtain ⟨a3, c3, rfl⟩ := hr3.slice
 replace F_v := Lh (F_v.o.keep hb2)
 replace F_o := Lh (F_o.o.keep hb2)
 replace HBW := Kt HBW hb2
 have HD1 := Lh hr1
 have HD2 := Lh hr2
 have HD3 := Lh hr3
 clear hb2 hr1 hr2 hr3 hn0 F_b
 obtain ⟨wo, rfl⟩ : ∃ wo, wo = w2 := ⟨_, rfl⟩
 go_wp2_with fail
 have F_t := Lh (Cl.at wo [.slice a1 B.n c1, .slice a2 B.m c2, .slice a3 B.k c3] 55 wo.heap.size rfl)
 replace F_v := Lh (F_v.o.alloc (.cells #[.slice a1 B.n c1, .slice a2 B.m c2, .slice a3 B.k c3] 55))
 replace F_o := Lh (F_o.o.alloc (.cells #[.slice a1 B.n c1, .slice a2 B.m c2, .slice a3 B.k c3] 55))
 replace HBW := Lh (HBW.o.alloc HBW.o.size (.cells #[.slice a1 B.n c1, .slice a2 B.m c2, .slice a3 B.k c3] 55))
 obtain ⟨HX, hHX⟩ : ∃ B, B = wo.heap.size := ⟨_, rfl⟩
 have hls : HX < (wo.alloc (.cells #[.slice a1 B.n c1, .slice a2 B.m c2, .slice a3 B.k c3] 55)).heap.size := by rw [hHX]; simp
 rw [← hHX] at F_t hn4 ⊢
 clear hHX
 have HPS := Lh (show (∀ b, n0 ≤ b → b < N1 → (fun b => (n0 ≤ b ∧ b < N1) ∨ HX < b) b) ∧ n0 ≤ N3 from ⟨fun b h1 h2 => .inl ⟨h1, h2⟩, by omega⟩)
 have HR1 := Lh ((HD1.o.rp (fun b => (n0 ≤ b ∧ b < N1) ∨ HX < b) HPS.o.1).alloc (.cells #[.slice a1 B.n c1, .slice a2 B.m c2, .slice a3 B.k c3] 55))
 have HR2 := Lh ((HD2.o.rp (fun b => N1 ≤ b ∧ b < N2) (fun b h1 h2 => ⟨h1, h2⟩)).alloc (.cells #[.slice a1 B.n c1, .slice a2 B.m c2, .slice a3 B.k c3] 55))
 have HR3 := Lh ((HD3.o.rp (fun b => N2 ≤ b ∧ b < N3) (fun b h1 h2 => ⟨h1, h2⟩)).alloc (.cells #[.slice a1 B.n c1, .slice a2 B.m c2, .slice a3 B.k c3] 55))
 have HOG := Lh (show ∀ g, (Value.slice a1 B.n c1).ownBlock = some g → n0 ≤ g ∧ g < N1 from fun g hg => ⟨(HD1.o.choose_spec.1.lt g hg).1, HD1.o.choose_spec.2.1 g hg⟩)
 have HOF := Lh (show ∀ g, (Value.slice a1 B.n c1).ownBlock = some g → g < HX + 1 from fun g hg => by have := (HOG.o g hg).2; omega)
 obtain ⟨wx, hwx⟩ : ∃ wx, wx = wo.alloc (.cells #[.slice a1 B.n c1, .slice a2 B.m c2, .slice a3 B.k c3] 55) := ⟨_, rfl⟩
 rw [← hwx] at F_t HR1 HR2 HR3 HBW hls F_v F_o ⊢
 clear hwx HD1 HD2 HD3
 replace F_t := Lh F_t.o.drew
 replace F_v := Lh F_v.o.drew
 replace F_o := Lh F_o.o.drew
 replace HR1 := Lh HR1.o.drew
 replace HR2 := Lh HR2.o.drew
 replace HR3 := Lh HR3.o.drew
 replace HBW := Lh HBW.o.drew
 have hS : Cl wx.drew HX [.slice a1 B.n c1, .slice a2 B.m c2, .slice a3 B.k c3] ∧ Cl wx.drew (w.heap.size + 1 + 1) V.cl := ⟨F_t.o, F_v.o⟩
 refine wp_region_stage 5 (fun w' => Cl w' HX [.slice a1 B.n c1, .slice a2 B.m c2, .slice a3 B.k c3] ∧ Cl w' (w.heap.size + 1 + 1) V.cl) (by kernel_rfl) ?_
 refine tkQ 0 (some 41) (.fieldAddr 55 (.tmp 15) 0) 0 ?_
 simp only [sY]
 refine tkL (i := 1) (some 42) (.load 52 (.tmp 41)) 52 [5] (v := ?_) hS (fun w' hSw => ?_) ?_
 rotate_left
 · obtain ⟨s1, s2⟩ := hSw; have t0 := s1.c 0 _ rfl; obtain ⟨⟨q0, q1, q2, q3, q4, q5, q6, q7, q8, q9, q10⟩, -⟩ := s2.k11
   unfold bareOp; go_simp; try with_reducible rfl
 simp only [sY]
 refine tkL (i := 2) (some 43) (.load 33 (.tmp 11)) 33 [3, 4, 5] (v := ?_) hS (fun w' hSw => ?_) ?_
 rotate_left
 · obtain ⟨s1, s2⟩ := hSw; have t0 := s1.c 0 _ rfl; obtain ⟨⟨q0, q1, q2, q3, q4, q5, q6, q7, q8, q9, q10⟩, -⟩ := s2.k11
   unfold bareOp; go_simp; try with_reducible rfl
 simp only [sY]
 refine onl (i := 3) (some 44) (.call { callee := .value (.func 44), args := #[.tmp 43], argTypes := #[33] }) 33 (fun K hK => ?_)
 unfold bareOp
 go_wp2_with (go_at_call 44; refine (rTwinVote_any (V := V) _ (HV.o.keep HBW.o) hn9 hm9).mono ?_; rintro e w5 ⟨U, rfl, hU5, hS5, hh1, hh2, hb5⟩)
 replace F_t := Lh (F_t.o.keep hb5)
 replace F_v := Lh (F_v.o.keep hb5)
 replace F_o := Lh (F_o.o.keep hb5)
 replace HR1 := Lh (HR1.o.keep hb5)
 replace HR2 := Lh (HR2.o.keep hb5)
 replace HR3 := Lh (HR3.o.keep hb5)
 replace HBW := Kt HBW hb5
 replace hS := (show Cl _ HX [.slice a1 B.n c1, .slice a2 B.m c2, .slice a3 B.k c3] ∧ Cl _ (w.heap.size + 1 + 1) V.cl from ⟨F_t.o, F_v.o⟩)
 have HU5 := Lh hU5
 have HS5 := Lh hS5
 have HH5 := Lh (show highB U.a U.n (HX + 1) ∧ highB U.b U.m (HX + 1) from ⟨hh1.mono (by (try simp only [World.size_drew]); omega), hh2.mono (by (try simp only [World.size_drew]); omega)⟩)
 have hz5 := hb5.size
 have hls5 : HX < w5.heap.size := by (try simp only [World.size_drew] at hz5); omega
 unfold Vt.v
 clear hb5 hU5 hS5 hz5 hh1 hh2
 refine hK.o _ _ (fun _ => hS) ?_
 clear hK K
 try simp only [sY]
 refine onl (i := 4) (some 45) (.buildSlice 52 1 #[(0, .tmp 44)]) 52 (fun K hK => ?_)
 unfold bareOp
 go_wp2_with fail
 replace F_t := Lh (F_t.o.alloc (.cells U.ca 33))
 replace F_v := Lh (F_v.o.alloc (.cells U.ca 33))
 replace F_o := Lh (F_o.o.alloc (.cells U.ca 33))
 replace HR1 := Lh (HR1.o.alloc (.cells U.ca 33))
 replace HR2 := Lh (HR2.o.alloc (.cells U.ca 33))
 replace HR3 := Lh (HR3.o.alloc (.cells U.ca 33))
 replace HBW := Lh (HBW.o.alloc HBW.o.size (.cells U.ca 33))
 replace hS := (show Cl _ HX [.slice a1 B.n c1, .slice a2 B.m c2, .slice a3 B.k c3] ∧ Cl _ (w.heap.size + 1 + 1) V.cl from ⟨F_t.o, F_v.o⟩)
 replace HU5 := Lh (HU5.o.keep ((Below.refl _ _).alloc (Nat.le_refl _) (.cells U.ca 33)))
 refine hK.o _ _ (fun _ => hS) ?_
 clear hK K
 try simp only [sY]
 refine onl (i := 5) (some 46) (.call { callee := .builtin .append, args := #[.tmp 42, .tmp 45], argTypes := #[52, 52] }) 52 (fun K hK => ?_)
 unfold bareOp
 refine wp_pushV (.tmp 42) (.tmp 45) rfl (fun b => (n0 ≤ b ∧ b < N1) ∨ HX < b) B.n w5.heap.size (.slice a1 B.n c1) B.l U V rfl rfl HR1.o (cell_list_at _ _ _ _ rfl) (by omega) (.inr (by simp <;> omega)) HU5.o ⟨HH5.o.1.off HOF.o, HH5.o.2.off HOF.o⟩ ⟨HH5.o.1.inB _ (fun b hb => .inr (by omega)), HH5.o.2.inB _ (fun b hb => .inr (by omega))⟩ HS5.o.key ?_
 intro a9 c9 w9 hR9 hg9
 replace HR1 := Lh hR9
 replace HR2 := Lh (HR2.o.grown hg9 (fun g hg => by have := (HOG.o g hg).2; simp only [not_and, Nat.not_lt]; omega))
 replace HR3 := Lh (HR3.o.grown hg9 (fun g hg => by have := (HOG.o g hg).2; simp only [not_and, Nat.not_lt]; omega))
 have HB9 := Lh (Below.rowT (n := n0) hg9 (fun g hg => by have := (HOG.o g hg).1; omega) (by simp <;> omega))
 replace F_v := Lh (F_v.o.keepN HB9.o (by omega))
 replace F_o := Lh (F_o.o.keepN HB9.o (by omega))
 replace F_t := Lh (F_t.o.grownX hg9 (fun g hg => by have := (HOG.o g hg).2; omega))
 replace HBW := Lh (HBW.o.trans (HB9.o.mono (by omega)))
 have hz9 := hg9.size
 have hlsw9 : HX < w9.heap.size := by simp at hz9; omega
 clear HB9 hR9 hg9 hz9
 refine hK.o _ _ lt8 ?_
 clear hK K
 try simp only [sY]
 refine tkP (i := 6) (some 47) (.fieldAddr 55 (.tmp 15) 0) 0 lt8 ?_
 simp only [sY]
 have q0 := F_t.o.c 0 _ rfl
 have qf0 := F_t.o.f 0
 refine onl (i := 7) none (.store 52 (.tmp 47) (.tmp 46)) 0 (fun K hK => ?_)
 unfold bareOp
 go_wp2_with fail
 refine hK.o _ _ lt8 ?_
 clear hK K
 try simp only [sY]
 refine wpAnyB_done (by kernel_rfl) ?_ _
 replace F_t := Lh (F_t.o.set (m := [.slice a9 (B.n + 1) c9, .slice a2 B.m c2, .slice a3 B.k c3]) 0 (.slice a9 (B.n + 1) c9) (by simp) rfl)
 replace F_o := Lh (F_o.o.far ⟨HX, 0, none⟩ (.slice a9 (B.n + 1) c9) (by simp <;> omega))
 replace HR1 := Lh (HR1.o.set ⟨HX, 0, none⟩ (.slice a9 (B.n + 1) c9) (by simp <;> omega))
 replace HR2 := Lh (HR2.o.set ⟨HX, 0, none⟩ (.slice a9 (B.n + 1) c9) (by simp <;> omega))
 replace HR3 := Lh (HR3.o.set ⟨HX, 0, none⟩ (.slice a9 (B.n + 1) c9) (by simp <;> omega))
 replace HBW := Lh (HBW.o.setCell (p := ⟨HX, 0, none⟩) (by simp <;> omega) (.slice a9 (B.n + 1) c9))
 go_wp2_with (first
  | (refine wpL_loadCl rfl 55 (.tmp 15) HX _ rfl rfl _ Tryz.underlying55 rfl (by kernel_rfl) F_t.o ?_)
  | (refine wpL_storeCl rfl 55 (.tmp 12) (.tmp 48) (w.heap.size + 1 + 1 + 1) 0 _ [.slice a9 (B.n + 1) c9, .slice a2 B.m c2, .slice a3 B.k c3] [.slice a9 (B.n + 1) c9, .slice a2 B.m c2, .slice a3 B.k c3] rfl rfl rfl rfl (by kernel_rfl) (by intro u hu; simp at hu; rcases hu with rfl | rfl | rfl <;> rfl) F_o.o (by simp) rfl ?_
     intro w8 hc8 hg8 hz8
     have F_q := Lh hc8
     have HG8 := Lh hg8
     clear hc8 hg8 hz8))
 refine bodyPost_ret (res_booth2 rfl F_q.o _ rfl rfl) rfl ?_
 refine ⟨HBW.o.trans (HG8.o.blw (n := w.heap.size) (by omega) HBW.o.size), _, _, HA.o, .inr ⟨rfl, .inr ⟨HK.o, ?_⟩⟩⟩
 have hng : ∀ g, some (w.heap.size + 1 + 1 + 1) = some g → g < n0 := fun g hg => by cases hg; exact hlt0
 exact BackB.of (lo := w.heap.size) (fun r hr => by have hq := hng _ rfl; refine ⟨?_, ?_, ?_⟩ <;> simp only [not_and, not_or, Nat.not_lt] <;> omega) (HR1.o.grown HG8.o.grown (fun g hg => by have := hng g hg; omega)) (HR2.o.grown HG8.o.grown (fun g hg => by have := hng g hg; omega)) (HR3.o.grown HG8.o.grown (fun g hg => by have := hng g hg; omega))
end Go.Proofs.YtlbldpkgnonbpaaGreatDoor
