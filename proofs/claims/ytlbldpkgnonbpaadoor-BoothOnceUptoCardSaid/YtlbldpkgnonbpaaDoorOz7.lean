/- BoothOnce: the statement: for every input the law returns true, and the arguments read as before. -/
import Derived.Test.YtlbldpkgnonbpaaDoorOz6
import Derived.Deep.DeepHandedRow
import Derived.Deep.DeepWitnessRowRef
set_option linter.unusedSimpArgs false
set_option linter.unusedVariables false
set_option maxRecDepth 100000
namespace Go.Proofs.YtlbldpkgnonbpaaDoor.lawOnce
open Go Sha Go.ChangeShapes Go.WideShapes Go.ChangeAt Go.RowKit Num
set_option maxHeartbeats 32000000 in
theorem walk (P Q G y n : Int) (one : Bool) (B : Bo) (V : Vt) (R : Rv) (w : World) (uP : U64 P) (uQ : U64 Q) (uG : U64 G) (uy : U64 y) (hn : -9223372036854775808 ≤ n ∧ n ≤ 9223372036854775807) (u1 : True) (hB : BoIn w B) (hV : VtIn w V) (hR : RvIn w R) (hsm : B.n + B.m + B.k ≤ 1048576) (hT : Tabs w) :
    Calls Tryd.prog 4 #[.agg #[.int .u64 P, .int .u64 Q, .int .u64 G], .int .u64 y, .int .i64 n, .bool one, B.v, V.v, R.v] w fun e w' => e = .returned (.bool true) ∧ Below w.heap.size w w' := by
  have HT := Lh hT
  have HB := Lh hB
  have HV := Lh hV
  have HR := Lh hR
  have hP := uP.1
  have hQ := uQ.1
  have hG := uG.1
  have hy := uy.1
  have hbn : B.n + B.m ≤ 2097152 := by omega
  have hbk : B.k ≤ 2097152 := by omega
  have HLN := Lh (show B.l.length = B.n ∧ B.l'.length = B.m ∧ B.rs.length = B.k from ⟨hB.h1.len.symm, hB.h2.len.symm, hB.h3.len.symm⟩)
  clear hT hB hV hR uP uQ uG uy hn u1 hsm
  unfold Bo.v Vt.v Rv.v
  have F_g := Lh (show Cl ((((w.alloc (.cells #[.int .u64 P, .int .u64 Q, .int .u64 G] 49)).alloc (.cells #[.slice B.a B.n B.c, .slice B.b B.m B.d, .slice B.e B.k B.f] 53)).alloc (.cells V.ca 29)).alloc (.cells #[.slice R.a R.n R.c, .slice R.b R.m R.d] 57)) (w.heap.size) [.int .u64 P, .int .u64 Q, .int .u64 G] from (((Cl.at w [.int .u64 P, .int .u64 Q, .int .u64 G] 49 (w.heap.size) (by simp)).alloc _).alloc _).alloc _)
  have F_b := Lh (show Cl ((((w.alloc (.cells #[.int .u64 P, .int .u64 Q, .int .u64 G] 49)).alloc (.cells #[.slice B.a B.n B.c, .slice B.b B.m B.d, .slice B.e B.k B.f] 53)).alloc (.cells V.ca 29)).alloc (.cells #[.slice R.a R.n R.c, .slice R.b R.m R.d] 57)) (w.heap.size + 1) [.slice B.a B.n B.c, .slice B.b B.m B.d, .slice B.e B.k B.f] from ((Cl.at (w.alloc (.cells #[.int .u64 P, .int .u64 Q, .int .u64 G] 49)) [.slice B.a B.n B.c, .slice B.b B.m B.d, .slice B.e B.k B.f] 53 (w.heap.size + 1) (by simp)).alloc _).alloc _)
  have F_v := Lh (show Cl ((((w.alloc (.cells #[.int .u64 P, .int .u64 Q, .int .u64 G] 49)).alloc (.cells #[.slice B.a B.n B.c, .slice B.b B.m B.d, .slice B.e B.k B.f] 53)).alloc (.cells V.ca 29)).alloc (.cells #[.slice R.a R.n R.c, .slice R.b R.m R.d] 57)) (w.heap.size + 1 + 1) V.cl from (Cl.at ((w.alloc (.cells #[.int .u64 P, .int .u64 Q, .int .u64 G] 49)).alloc (.cells #[.slice B.a B.n B.c, .slice B.b B.m B.d, .slice B.e B.k B.f] 53)) V.cl 29 (w.heap.size + 1 + 1) (by simp)).alloc _)
  have F_r := Lh (show Cl ((((w.alloc (.cells #[.int .u64 P, .int .u64 Q, .int .u64 G] 49)).alloc (.cells #[.slice B.a B.n B.c, .slice B.b B.m B.d, .slice B.e B.k B.f] 53)).alloc (.cells V.ca 29)).alloc (.cells #[.slice R.a R.n R.c, .slice R.b R.m R.d] 57)) (w.heap.size + 1 + 1 + 1) [.slice R.a R.n R.c, .slice R.b R.m R.d] from Cl.at (((w.alloc (.cells #[.int .u64 P, .int .u64 Q, .int .u64 G] 49)).alloc (.cells #[.slice B.a B.n B.c, .slice B.b B.m B.d, .slice B.e B.k B.f] 53)).alloc (.cells V.ca 29)) [.slice R.a R.n R.c, .slice R.b R.m R.d] 57 (w.heap.size + 1 + 1 + 1) (by simp))
  have HBW := Lh (show Below w.heap.size w ((((w.alloc (.cells #[.int .u64 P, .int .u64 Q, .int .u64 G] 49)).alloc (.cells #[.slice B.a B.n B.c, .slice B.b B.m B.d, .slice B.e B.k B.f] 53)).alloc (.cells V.ca 29)).alloc (.cells #[.slice R.a R.n R.c, .slice R.b R.m R.d] 57)) from ((((Below.refl _ _).alloc (by simp <;> omega) _).alloc (by simp <;> omega) _).alloc (by simp <;> omega) _).alloc (by simp <;> omega) _)
  go_enter Tryd.func4, Tryd.ntmps4
  go_wp2_with fail
  refine (alive_any _ (HT.o.below HBW.o)).mono ?_
  rintro e w1 ⟨rfl, hb1⟩
  replace F_g := Lh (F_g.o.keep hb1)
  replace F_b := Lh (F_b.o.keep hb1)
  replace F_v := Lh (F_v.o.keep hb1)
  replace F_r := Lh (F_r.o.keep hb1)
  replace HBW := Lh (HBW.o.trans (hb1.mono HBW.o.size))
  clear hb1
  have q_b_0 := F_b.o.c 0 _ rfl
  have q_b_1 := F_b.o.c 1 _ rfl
  have q_b_2 := F_b.o.c 2 _ rfl
  go_wp2_with fail
  clear q_b_0 q_b_1 q_b_2
  refine (rGreat_any (B := B) _ (HB.o.keep HBW.o) hbn hbk).mono ?_
  rintro e w2 ⟨hg2, hb2⟩
  obtain ⟨r, rfl, hfew⟩ := hg2
  have HFE := Lh hfew
  clear hfew
  replace F_g := Lh (F_g.o.keep hb2)
  replace F_b := Lh (F_b.o.keep hb2)
  replace F_v := Lh (F_v.o.keep hb2)
  replace F_r := Lh (F_r.o.keep hb2)
  replace HBW := Lh (HBW.o.trans (hb2.mono HBW.o.size))
  clear hb2
  cases r with
  | true =>
   go_wp2_with fail
   go_ret
   exact ⟨rfl, HBW.o⟩
  | false =>
  have HFW := Lh (HFE.o rfl)
  clear HFE
  have q_v_0 := F_v.o.c 0 _ rfl
  have q_v_1 := F_v.o.c 1 _ rfl
  have q_v_2 := F_v.o.c 2 _ rfl
  have q_v_3 := F_v.o.c 3 _ rfl
  have q_v_4 := F_v.o.c 4 _ rfl
  have q_v_5 := F_v.o.c 5 _ rfl
  have q_v_6 := F_v.o.c 6 _ rfl
  have q_v_7 := F_v.o.c 7 _ rfl
  have q_v_8 := F_v.o.c 8 _ rfl
  have q_v_9 := F_v.o.c 9 _ rfl
  have q_v_10 := F_v.o.c 10 _ rfl
  go_wp2_with fail
  clear q_v_0 q_v_1 q_v_2 q_v_3 q_v_4 q_v_5 q_v_6 q_v_7 q_v_8 q_v_9 q_v_10
  refine (greatV_any (V := V) _).mono ?_
  rintro e w3 ⟨rfl, hb3⟩
  replace F_g := Lh (F_g.o.keep hb3)
  replace F_b := Lh (F_b.o.keep hb3)
  replace F_v := Lh (F_v.o.keep hb3)
  replace F_r := Lh (F_r.o.keep hb3)
  replace HBW := Lh (HBW.o.trans (hb3.mono HBW.o.size))
  clear hb3
  cases hgv : greatV V with
  | true =>
   go_wp2_with fail
   go_ret
   exact ⟨rfl, HBW.o⟩
  | false =>
  have HVS := Lh (greatV_no hgv)
  clear hgv
  by_cases hr1 : 20 < R.n
  case pos =>
   have hd1 : decide ((20 : Int) < (R.n : Int)) = true := decide_eq_true (by omega)
   have hd1p : (20 : Int) < (R.n : Int) := by omega
   have q_r_0 := F_r.o.c 0 _ rfl
   have q_r_1 := F_r.o.c 1 _ rfl
   go_wp2_with fail
   clear q_r_0 q_r_1
   go_ret
   exact ⟨rfl, HBW.o⟩
  case neg =>
  have hd1 : decide ((20 : Int) < (R.n : Int)) = false := decide_eq_false (by omega)
  have hd1p : ¬ ((20 : Int) < (R.n : Int)) := by omega
  by_cases hr2 : 20 < R.m
  case pos =>
   have hd2 : decide ((20 : Int) < (R.m : Int)) = true := decide_eq_true (by omega)
   have hd2p : (20 : Int) < (R.m : Int) := by omega
   have q_r_0 := F_r.o.c 0 _ rfl
   have q_r_1 := F_r.o.c 1 _ rfl
   go_wp2_with fail
   clear q_r_0 q_r_1
   go_ret
   exact ⟨rfl, HBW.o⟩
  case neg =>
  have hd2 : decide ((20 : Int) < (R.m : Int)) = false := decide_eq_false (by omega)
  have hd2p : ¬ ((20 : Int) < (R.m : Int)) := by omega
  have HRS := Lh (show R.n ≤ 20 ∧ R.m ≤ 20 by omega)
  have HSM := Lh (show BoSm B from ⟨by have := HFW.o.f1; omega, by have := HFW.o.f2; omega, (fun X h => by have := HFW.o.f4 X h; omega), (fun X h => by have := HFW.o.f3 X h; omega)⟩)
  have HF8 := Lh (show B.n + B.m < 256 by have := HFW.o.f1; omega)
  by_cases hA : Adm P Q G y n one B V
  case neg =>
   have q_g_0 := F_g.o.c 0 _ rfl
   have q_g_1 := F_g.o.c 1 _ rfl
   have q_g_2 := F_g.o.c 2 _ rfl
   have q_b_0 := F_b.o.c 0 _ rfl
   have q_b_1 := F_b.o.c 1 _ rfl
   have q_b_2 := F_b.o.c 2 _ rfl
   have q_v_0 := F_v.o.c 0 _ rfl
   have q_v_1 := F_v.o.c 1 _ rfl
   have q_v_2 := F_v.o.c 2 _ rfl
   have q_v_3 := F_v.o.c 3 _ rfl
   have q_v_4 := F_v.o.c 4 _ rfl
   have q_v_5 := F_v.o.c 5 _ rfl
   have q_v_6 := F_v.o.c 6 _ rfl
   have q_v_7 := F_v.o.c 7 _ rfl
   have q_v_8 := F_v.o.c 8 _ rfl
   have q_v_9 := F_v.o.c 9 _ rfl
   have q_v_10 := F_v.o.c 10 _ rfl
   have q_r_0 := F_r.o.c 0 _ rfl
   have q_r_1 := F_r.o.c 1 _ rfl
   go_wp2_with fail
   clear q_g_0 q_g_1 q_g_2 q_b_0 q_b_1 q_b_2 q_v_0 q_v_1 q_v_2 q_v_3 q_v_4 q_v_5 q_v_6 q_v_7 q_v_8 q_v_9 q_v_10 q_r_0 q_r_1
   refine (once_cast_no (n := n) (V := V) (one := one) _ (HT.o.below HBW.o) hP hQ hG hy (HB.o.keep HBW.o) HSM.o (HV.o.keep HBW.o) (by have := HVS.o; omega) (by have := HVS.o; omega) hA).mono ?_
   rintro e w4 ⟨⟨er, erh, rfl⟩, hb4⟩
   replace F_g := Lh (F_g.o.keep hb4)
   replace F_b := Lh (F_b.o.keep hb4)
   replace F_v := Lh (F_v.o.keep hb4)
   replace F_r := Lh (F_r.o.keep hb4)
   replace HBW := Lh (HBW.o.trans (hb4.mono HBW.o.size))
   clear hb4
   have er1 : decide (er = 0) = false := decide_eq_false erh
   have er2 : (er == 0) = false := by simpa using erh
   replace F_g := Lh (F_g.o.keep ((Below.refl _ _).alloc (Nat.le_refl _) (.cells #[.slice none 0 0, .slice none 0 0, .slice none 0 0] 53)))
   replace F_b := Lh (F_b.o.keep ((Below.refl _ _).alloc (Nat.le_refl _) (.cells #[.slice none 0 0, .slice none 0 0, .slice none 0 0] 53)))
   replace F_v := Lh (F_v.o.keep ((Below.refl _ _).alloc (Nat.le_refl _) (.cells #[.slice none 0 0, .slice none 0 0, .slice none 0 0] 53)))
   replace F_r := Lh (F_r.o.keep ((Below.refl _ _).alloc (Nat.le_refl _) (.cells #[.slice none 0 0, .slice none 0 0, .slice none 0 0] 53)))
   replace HBW := Lh (HBW.o.alloc HBW.o.size (.cells #[.slice none 0 0, .slice none 0 0, .slice none 0 0] 53))
   have q_g_0 := F_g.o.c 0 _ rfl
   have q_g_1 := F_g.o.c 1 _ rfl
   have q_g_2 := F_g.o.c 2 _ rfl
   have q_b_0 := F_b.o.c 0 _ rfl
   have q_b_1 := F_b.o.c 1 _ rfl
   have q_b_2 := F_b.o.c 2 _ rfl
   have q_v_0 := F_v.o.c 0 _ rfl
   have q_v_1 := F_v.o.c 1 _ rfl
   have q_v_2 := F_v.o.c 2 _ rfl
   have q_v_3 := F_v.o.c 3 _ rfl
   have q_v_4 := F_v.o.c 4 _ rfl
   have q_v_5 := F_v.o.c 5 _ rfl
   have q_v_6 := F_v.o.c 6 _ rfl
   have q_v_7 := F_v.o.c 7 _ rfl
   have q_v_8 := F_v.o.c 8 _ rfl
   have q_v_9 := F_v.o.c 9 _ rfl
   have q_v_10 := F_v.o.c 10 _ rfl
   have q_r_0 := F_r.o.c 0 _ rfl
   have q_r_1 := F_r.o.c 1 _ rfl
   go_wp2_with fail
   clear q_g_0 q_g_1 q_g_2 q_b_0 q_b_1 q_b_2 q_v_0 q_v_1 q_v_2 q_v_3 q_v_4 q_v_5 q_v_6 q_v_7 q_v_8 q_v_9 q_v_10 q_r_0 q_r_1
   refine (once_chal_no (n := n) (V := V) (R := R) (one := one) _ (HT.o.below HBW.o) hP hQ hG hy (HB.o.keep HBW.o) HSM.o (HV.o.keep HBW.o) (by have := HVS.o; omega) (by have := HVS.o; omega) (HR.o.keep HBW.o) (by have := HRS.o; omega) (by have := HRS.o; omega) (fun h => hA h.1) HF8.o).mono ?_
   rintro e w5 ⟨⟨es, esh, rfl⟩, hb5⟩
   replace F_g := Lh (F_g.o.keep hb5)
   replace F_b := Lh (F_b.o.keep hb5)
   replace F_v := Lh (F_v.o.keep hb5)
   replace F_r := Lh (F_r.o.keep hb5)
   replace HBW := Lh (HBW.o.trans (hb5.mono HBW.o.size))
   clear hb5
   have es1 : decide (es = 0) = false := decide_eq_false esh
   have es2 : (es == 0) = false := by simpa using esh
   replace F_g := Lh (F_g.o.keep ((Below.refl _ _).alloc (Nat.le_refl _) (.cells #[.slice none 0 0, .slice none 0 0, .slice none 0 0] 53)))
   replace F_b := Lh (F_b.o.keep ((Below.refl _ _).alloc (Nat.le_refl _) (.cells #[.slice none 0 0, .slice none 0 0, .slice none 0 0] 53)))
   replace F_v := Lh (F_v.o.keep ((Below.refl _ _).alloc (Nat.le_refl _) (.cells #[.slice none 0 0, .slice none 0 0, .slice none 0 0] 53)))
   replace F_r := Lh (F_r.o.keep ((Below.refl _ _).alloc (Nat.le_refl _) (.cells #[.slice none 0 0, .slice none 0 0, .slice none 0 0] 53)))
   replace HBW := Lh (HBW.o.alloc HBW.o.size (.cells #[.slice none 0 0, .slice none 0 0, .slice none 0 0] 53))
   go_wp2_with fail
   go_ret
   exact ⟨rfl, HBW.o⟩
  case pos =>
  have HA := Lh hA
  have hkm := HA.o.boo.lr
  have HKM := Lh hkm
  clear hA hkm
  have q_g_0 := F_g.o.c 0 _ rfl
  have q_g_1 := F_g.o.c 1 _ rfl
  have q_g_2 := F_g.o.c 2 _ rfl
  have q_b_0 := F_b.o.c 0 _ rfl
  have q_b_1 := F_b.o.c 1 _ rfl
  have q_b_2 := F_b.o.c 2 _ rfl
  have q_v_0 := F_v.o.c 0 _ rfl
  have q_v_1 := F_v.o.c 1 _ rfl
  have q_v_2 := F_v.o.c 2 _ rfl
  have q_v_3 := F_v.o.c 3 _ rfl
  have q_v_4 := F_v.o.c 4 _ rfl
  have q_v_5 := F_v.o.c 5 _ rfl
  have q_v_6 := F_v.o.c 6 _ rfl
  have q_v_7 := F_v.o.c 7 _ rfl
  have q_v_8 := F_v.o.c 8 _ rfl
  have q_v_9 := F_v.o.c 9 _ rfl
  have q_v_10 := F_v.o.c 10 _ rfl
  have q_r_0 := F_r.o.c 0 _ rfl
  have q_r_1 := F_r.o.c 1 _ rfl
  go_wp2_with fail
  clear q_g_0 q_g_1 q_g_2 q_b_0 q_b_1 q_b_2 q_v_0 q_v_1 q_v_2 q_v_3 q_v_4 q_v_5 q_v_6 q_v_7 q_v_8 q_v_9 q_v_10 q_r_0 q_r_1
  refine (once_cast_ok (n := n) (V := V) (one := one) _ (HT.o.below HBW.o) hP hQ hG hy (HB.o.keep HBW.o) HSM.o (HV.o.keep HBW.o) (by have := HVS.o; omega) (by have := HVS.o; omega) HA.o HF8.o).mono ?_
  rintro e w4 ⟨hbk4, hb4⟩
  replace F_g := Lh (F_g.o.keep hb4)
  replace F_b := Lh (F_b.o.keep hb4)
  replace F_v := Lh (F_v.o.keep hb4)
  replace F_r := Lh (F_r.o.keep hb4)
  replace HBW := Lh (HBW.o.trans (hb4.mono HBW.o.size))
  clear hb4
  obtain ⟨B1, rfl, hi1, hn1, hm1, hk1, hS1, hcp1, -⟩ := hbk4
  obtain ⟨a1, n1, c1, l1, b1, m1, d1, g1, e1, k1, f1, t1⟩ := B1
  simp only at hn1 hm1 hk1 hcp1
  subst hn1 hm1
  obtain rfl : k1 = B.m := by rw [hk1]; exact HKM.o
  obtain ⟨s1, o1, U1, hsa, hUL, hUC, hUI⟩ := hi1.h1.at B.n (Nat.lt_succ_self _)
  simp only at hsa
  subst hsa
  have HSU := Lh (Vt.same_of_key (keys_last Vt.key hS1.k1 HLN.o.1 hUL))
  have HBO1 := Lh (show boothP P Q G y n.toNat one ⟨some ⟨s1, o1, none⟩, B.n + 1, c1, l1, b1, B.m, d1, g1, e1, B.m, f1, t1⟩ from booth_cast HA.o.boo HA.o.god HA.o.new (by have := HF8.o; omega) rfl rfl HKM.o.symm hS1)
  have HSN1 := Lh (show V.cd ∈ cds (Bo.l ⟨some ⟨s1, o1, none⟩, B.n + 1, c1, l1, b1, B.m, d1, g1, e1, B.m, f1, t1⟩ ++ Bo.l' ⟨some ⟨s1, o1, none⟩, B.n + 1, c1, l1, b1, B.m, d1, g1, e1, B.m, f1, t1⟩) from seen_cast hS1)
  have HSB1 := Lh (show SameB ⟨some ⟨s1, o1, none⟩, B.n, c1, l1.take B.n, b1, B.m, d1, g1, e1, B.m, f1, t1⟩ B.l B.l' B.rs from ⟨keys_front Vt.key hS1.k1 HLN.o.1, hS1.k2, hS1.k3⟩)
  have HV1 := Lh (small_of_keys (keys_append Vt.key hS1.k1 hS1.k2) (fun X hX => by
   rcases List.mem_append.1 hX with hX | hX
   · rcases List.mem_append.1 hX with hX | hX
     · have := HFW.o.f3 X (List.mem_append.2 (.inl hX)); omega
     · rw [List.mem_singleton] at hX; rw [hX]; have := HVS.o; omega
   · have := HFW.o.f3 X (List.mem_append.2 (.inr hX)); omega))
  have HR1 := Lh (small_of_keysR hS1.k3 (fun X hX => by have := HFW.o.f4 X hX; omega))
  have HSM1 := Lh (show BoSm ⟨some ⟨s1, o1, none⟩, B.n + 1, c1, l1, b1, B.m, d1, g1, e1, B.m, f1, t1⟩ from ⟨by have := HFW.o.f1; simp only; omega, by have := HFW.o.f1; simp only; omega, HR1.o, HV1.o⟩)
  have HB1 := Lh (show BoIn w4 ⟨some ⟨s1, o1, none⟩, B.n + 1, c1, l1, b1, B.m, d1, g1, e1, B.m, f1, t1⟩ from hi1)
  have HBK1 := Lh (show BoIn w4 ⟨some ⟨s1, o1, none⟩, B.n, c1, l1.take B.n, b1, B.m, d1, g1, e1, B.m, f1, t1⟩ from ⟨hi1.h1.front, (fun h => by cases h), hi1.h2, hi1.k2, hi1.h3, hi1.k3⟩)
  have HUC1 := Lh hUC
  have HUI1 := Lh hUI
  have hc1 : B.n + 1 ≤ c1 := hcp1.1
  have hle1 : B.n ≤ c1 := by omega
  clear hi1 hS1 hcp1 hUL hUC hUI hk1
  simp only [Bo.v]
  have hne1 : ¬ ((B.n : Int) + 1 = 0) := by omega
  have hne1d : decide ((B.n : Int) + 1 = 0) = false := decide_eq_false (by omega)
  have hw1 : IntKind.i64.wrap ((B.n : Int) + 1 - 1) = (B.n : Int) := by rw [Int.add_sub_cancel]; exact IntWalk.i64_in _ (by have := HFW.o.f1; omega)
  have hw1' : IntKind.i64.wrap (B.n : Int) = (B.n : Int) := IntWalk.i64_in _ (by have := HFW.o.f1; omega)
  have hlr := F_r.o.lt
  go_wp2_with fail
  have F_c := Lh (Cl.at w4 [.slice (some ⟨s1, o1, none⟩) (B.n + 1) c1, .slice b1 B.m d1, .slice e1 B.m f1] 53 w4.heap.size rfl)
  replace F_g := Lh (F_g.o.keep ((Below.refl _ _).alloc (Nat.le_refl _) (.cells #[.slice (some ⟨s1, o1, none⟩) (B.n + 1) c1, .slice b1 B.m d1, .slice e1 B.m f1] 53)))
  replace F_b := Lh (F_b.o.keep ((Below.refl _ _).alloc (Nat.le_refl _) (.cells #[.slice (some ⟨s1, o1, none⟩) (B.n + 1) c1, .slice b1 B.m d1, .slice e1 B.m f1] 53)))
  replace F_v := Lh (F_v.o.keep ((Below.refl _ _).alloc (Nat.le_refl _) (.cells #[.slice (some ⟨s1, o1, none⟩) (B.n + 1) c1, .slice b1 B.m d1, .slice e1 B.m f1] 53)))
  replace F_r := Lh (F_r.o.keep ((Below.refl _ _).alloc (Nat.le_refl _) (.cells #[.slice (some ⟨s1, o1, none⟩) (B.n + 1) c1, .slice b1 B.m d1, .slice e1 B.m f1] 53)))
  replace HB1 := Lh (HB1.o.keep ((Below.refl _ _).alloc (Nat.le_refl _) (.cells #[.slice (some ⟨s1, o1, none⟩) (B.n + 1) c1, .slice b1 B.m d1, .slice e1 B.m f1] 53)))
  replace HBK1 := Lh (HBK1.o.keep ((Below.refl _ _).alloc (Nat.le_refl _) (.cells #[.slice (some ⟨s1, o1, none⟩) (B.n + 1) c1, .slice b1 B.m d1, .slice e1 B.m f1] 53)))
  replace HUC1 := Lh (HUC1.o.keep ((Below.refl _ _).alloc (Nat.le_refl _) (.cells #[.slice (some ⟨s1, o1, none⟩) (B.n + 1) c1, .slice b1 B.m d1, .slice e1 B.m f1] 53)))
  replace HUI1 := Lh (HUI1.o.keep ((Below.refl _ _).alloc (Nat.le_refl _) (.cells #[.slice (some ⟨s1, o1, none⟩) (B.n + 1) c1, .slice b1 B.m d1, .slice e1 B.m f1] 53)))
  replace HBW := Lh (HBW.o.alloc HBW.o.size (.cells #[.slice (some ⟨s1, o1, none⟩) (B.n + 1) c1, .slice b1 B.m d1, .slice e1 B.m f1] 53))
  obtain ⟨CB, hCB⟩ : ∃ x, x = w4.heap.size := ⟨_, rfl⟩
  obtain ⟨wa, hwa⟩ : ∃ x, x = w4.alloc (.cells #[.slice (some ⟨s1, o1, none⟩) (B.n + 1) c1, .slice b1 B.m d1, .slice e1 B.m f1] 53) := ⟨_, rfl⟩
  rw [← hwa] at F_c F_g F_b F_v F_r HB1 HBK1 HUC1 HUI1 HBW ⊢
  rw [← hCB] at F_c ⊢
  clear hwa
  have hcb : w.heap.size + 1 + 1 + 1 < CB := by omega
  clear hCB
  replace F_g := Lh (F_g.o.keep (Below.refl _ _).drew)
  replace F_b := Lh (F_b.o.keep (Below.refl _ _).drew)
  replace F_v := Lh (F_v.o.keep (Below.refl _ _).drew)
  replace F_r := Lh (F_r.o.keep (Below.refl _ _).drew)
  replace HB1 := Lh (HB1.o.keep (Below.refl _ _).drew)
  replace HBK1 := Lh (HBK1.o.keep (Below.refl _ _).drew)
  replace HUC1 := Lh (HUC1.o.keep (Below.refl _ _).drew)
  replace HUI1 := Lh (HUI1.o.keep (Below.refl _ _).drew)
  replace F_c := Lh (F_c.o.keep (Below.refl _ _).drew)
  replace HBW := Lh HBW.o.drew
  have hS0 := F_c.o
  refine wp_region_stage 13 (fun w' => Cl w' CB [.slice (some ⟨s1, o1, none⟩) (B.n + 1) c1, .slice b1 B.m d1, .slice e1 B.m f1]) (by kernel_rfl) ?_
  refine tkP (i := 0) (some 75) (.fieldAddr 53 (.tmp 16) 0) 0 (fun _ => hS0) ?_
  simp only [Act.put, sZ]
  refine tkL (i := 1) (some 76) (.load 50 (.tmp 75)) 50 [6, 11, 13] (v := ?_) hS0 (fun w' hSw => ?_) ?_
  rotate_left
  · have y0 := hSw.c 0 _ rfl; have y1 := hSw.c 1 _ rfl; have y2 := hSw.c 2 _ rfl
    unfold bareOp; go_simp; try with_reducible rfl
  simp only [Act.put, sZ]
  refine tkP (i := 2) (some 77) (.fieldAddr 53 (.tmp 16) 0) 0 (fun _ => hS0) ?_
  simp only [Act.put, sZ]
  refine tkL (i := 3) (some 78) (.load 50 (.tmp 77)) 50 [4, 5, 6, 11, 13] (v := ?_) hS0 (fun w' hSw => ?_) ?_
  rotate_left
  · have y0 := hSw.c 0 _ rfl; have y1 := hSw.c 1 _ rfl; have y2 := hSw.c 2 _ rfl
    unfold bareOp; go_simp; try with_reducible rfl
  simp only [Act.put, sZ]
  refine tkP (i := 4) (some 79) (.call { callee := .builtin .len, args := #[.tmp 78], argTypes := #[50] }) 3 (fun _ => hS0) ?_
  simp only [Act.put, sZ]
  refine tkP (i := 5) (some 80) (.binOp .sub 3 (.tmp 79) (.const (.int .i64 1)) 3) 3 (fun _ => hS0) ?_
  simp only [Act.put, sZ]
  refine tkP (i := 6) (some 81) (.slice 50 (.tmp 76) none (some (.tmp 80)) none) 50 (fun _ => hS0) ?_
  simp only [Act.put, sZ]
  refine tkP (i := 7) (some 82) (.fieldAddr 53 (.tmp 16) 1) 0 (fun _ => hS0) ?_
  simp only [Act.put, sZ]
  refine tkL (i := 8) (some 83) (.load 50 (.tmp 82)) 50 [11, 13] (v := ?_) hS0 (fun w' hSw => ?_) ?_
  rotate_left
  · have y0 := hSw.c 0 _ rfl; have y1 := hSw.c 1 _ rfl; have y2 := hSw.c 2 _ rfl
    unfold bareOp; go_simp; try with_reducible rfl
  simp only [Act.put, sZ]
  refine tkP (i := 9) (some 84) (.fieldAddr 53 (.tmp 16) 2) 0 (fun _ => hS0) ?_
  simp only [Act.put, sZ]
  refine tkL (i := 10) (some 85) (.load 51 (.tmp 84)) 51 [11, 13] (v := ?_) hS0 (fun w' hSw => ?_) ?_
  rotate_left
  · have y0 := hSw.c 0 _ rfl; have y1 := hSw.c 1 _ rfl; have y2 := hSw.c 2 _ rfl
    unfold bareOp; go_simp; try with_reducible rfl
  simp only [Act.put, sZ]
  refine tkP (i := 11) (some 86) (.build 53 #[(0, .tmp 81), (1, .tmp 83), (2, .tmp 85)]) 53 (fun _ => hS0) ?_
  simp only [Act.put, sZ]
  refine onl (i := 12) (some 18) (.alloc 53) 0 (fun K hK => ?_)
  unfold bareOp
  go_wp2_with fail
  have F_k := Lh (show Cl (wa.drew.alloc (.cells #[.slice none 0 0, .slice none 0 0, .slice none 0 0] 53)) wa.heap.size [.slice none 0 0, .slice none 0 0, .slice none 0 0] from Cl.at wa.drew [.slice none 0 0, .slice none 0 0, .slice none 0 0] 53 _ (by simp))
  have HOF_HB1 := Lh (show offBo wa.heap.size _ from HB1.o.freshO)
  have HOF_HBK1 := Lh (show offBo wa.heap.size _ from HBK1.o.freshO)
  have HZ_F_g := Lh (show w.heap.size < wa.heap.size from by have := F_g.o.lt; simpa using this)
  have HZ_F_b := Lh (show w.heap.size + 1 < wa.heap.size from by have := F_b.o.lt; simpa using this)
  have HZ_F_v := Lh (show w.heap.size + 1 + 1 < wa.heap.size from by have := F_v.o.lt; simpa using this)
  have HZ_F_r := Lh (show w.heap.size + 1 + 1 + 1 < wa.heap.size from by have := F_r.o.lt; simpa using this)
  have HZ_F_c := Lh (show CB < wa.heap.size from by have := F_c.o.lt; simpa using this)
  have HZ_HUC1 := Lh (show s1 < wa.heap.size from by have := HUC1.o.lt; simpa using this)
  have HOV_HUI1 := Lh (show offB _ _ (some wa.heap.size) ∧ offB _ _ (some wa.heap.size) from ⟨HUI1.o.h1.fresh, HUI1.o.h2.fresh⟩)
  replace F_g := Lh (F_g.o.keep ((Below.refl _ _).alloc (Nat.le_refl _) (.cells #[.slice none 0 0, .slice none 0 0, .slice none 0 0] 53)))
  replace F_b := Lh (F_b.o.keep ((Below.refl _ _).alloc (Nat.le_refl _) (.cells #[.slice none 0 0, .slice none 0 0, .slice none 0 0] 53)))
  replace F_v := Lh (F_v.o.keep ((Below.refl _ _).alloc (Nat.le_refl _) (.cells #[.slice none 0 0, .slice none 0 0, .slice none 0 0] 53)))
  replace F_r := Lh (F_r.o.keep ((Below.refl _ _).alloc (Nat.le_refl _) (.cells #[.slice none 0 0, .slice none 0 0, .slice none 0 0] 53)))
  replace HB1 := Lh (HB1.o.keep ((Below.refl _ _).alloc (Nat.le_refl _) (.cells #[.slice none 0 0, .slice none 0 0, .slice none 0 0] 53)))
  replace HBK1 := Lh (HBK1.o.keep ((Below.refl _ _).alloc (Nat.le_refl _) (.cells #[.slice none 0 0, .slice none 0 0, .slice none 0 0] 53)))
  replace HUC1 := Lh (HUC1.o.keep ((Below.refl _ _).alloc (Nat.le_refl _) (.cells #[.slice none 0 0, .slice none 0 0, .slice none 0 0] 53)))
  replace HUI1 := Lh (HUI1.o.keep ((Below.refl _ _).alloc (Nat.le_refl _) (.cells #[.slice none 0 0, .slice none 0 0, .slice none 0 0] 53)))
  replace F_c := Lh (F_c.o.keep ((Below.refl _ _).alloc (Nat.le_refl _) (.cells #[.slice none 0 0, .slice none 0 0, .slice none 0 0] 53)))
  replace HBW := Lh (HBW.o.alloc HBW.o.size (.cells #[.slice none 0 0, .slice none 0 0, .slice none 0 0] 53))
  clear hS0
  have hS0 := F_c.o
  refine hK.o _ _ (fun _ => hS0) ?_
  clear hK K
  try simp only [Act.put, sZ]
  refine onl (i := 13) none (.store 53 (.tmp 18) (.tmp 86)) 0 (fun K hK => ?_)
  unfold bareOp
  refine wp_storeCl 53 (.tmp 18) (.tmp 86) wa.heap.size 0 [.slice none 0 0, .slice none 0 0, .slice none 0 0] [.slice (some ⟨s1, o1, none⟩) B.n c1, .slice b1 B.m d1, .slice e1 B.m f1] [.slice (some ⟨s1, o1, none⟩) B.n c1, .slice b1 B.m d1, .slice e1 B.m f1] rfl rfl rfl (by kernel_rfl) (by intro u hu; simp at hu; rcases hu with rfl | rfl | rfl <;> rfl) F_k.o (by simp) rfl ?_
  intro w5 hca hga hza
  replace F_k := Lh hca
  replace F_g := Lh (F_g.o.gro hga (by have := HZ_F_g.o; omega))
  replace F_b := Lh (F_b.o.gro hga (by have := HZ_F_b.o; omega))
  replace F_v := Lh (F_v.o.gro hga (by have := HZ_F_v.o; omega))
  replace F_r := Lh (F_r.o.gro hga (by have := HZ_F_r.o; omega))
  replace HB1 := Lh (HB1.o.grownO hga.grown HOF_HB1.o)
  replace HBK1 := Lh (HBK1.o.grownO hga.grown HOF_HBK1.o)
  replace HUC1 := Lh (HUC1.o.gro hga (by have := HZ_HUC1.o; omega))
  replace HUI1 := Lh (HUI1.o.grownO hga.grown HOV_HUI1.o.1 HOV_HUI1.o.2)
  replace F_c := Lh (F_c.o.gro hga (by have := HZ_F_c.o; omega))
  replace HBW := Lh (HBW.o.trans (hga.blw (n := w.heap.size) (by have := HZ_F_g.o; omega) HBW.o.size))
  clear hca hga hza HOF_HB1 HOF_HBK1 HZ_F_g HZ_F_b HZ_F_v HZ_F_r HZ_HUC1 HZ_F_c HOV_HUI1
  refine hK.o _ _ lt8 ?_
  clear hK K
  try simp only [Act.put, sZ]
  refine wpAnyB_done (by kernel_rfl) ?_ _
  have q_g_0 := F_g.o.c 0 _ rfl
  have q_g_1 := F_g.o.c 1 _ rfl
  have q_g_2 := F_g.o.c 2 _ rfl
  have q_c_0 := F_c.o.c 0 _ rfl
  have q_c_1 := F_c.o.c 1 _ rfl
  have q_c_2 := F_c.o.c 2 _ rfl
  have q_v_0 := F_v.o.c 0 _ rfl
  have q_v_1 := F_v.o.c 1 _ rfl
  have q_v_2 := F_v.o.c 2 _ rfl
  have q_v_3 := F_v.o.c 3 _ rfl
  have q_v_4 := F_v.o.c 4 _ rfl
  have q_v_5 := F_v.o.c 5 _ rfl
  have q_v_6 := F_v.o.c 6 _ rfl
  have q_v_7 := F_v.o.c 7 _ rfl
  have q_v_8 := F_v.o.c 8 _ rfl
  have q_v_9 := F_v.o.c 9 _ rfl
  have q_v_10 := F_v.o.c 10 _ rfl
  go_wp2_with fail
  clear q_g_0 q_g_1 q_g_2 q_c_0 q_c_1 q_c_2 q_v_0 q_v_1 q_v_2 q_v_3 q_v_4 q_v_5 q_v_6 q_v_7 q_v_8 q_v_9 q_v_10
  refine (once_cast_seen (n := n) (B := ⟨some ⟨s1, o1, none⟩, B.n + 1, c1, l1, b1, B.m, d1, g1, e1, B.m, f1, t1⟩) (V := V) (one := one) _ (HT.o.below HBW.o) hP hQ hG hy HB1.o HSM1.o (HV.o.keep HBW.o) (by have := HVS.o; omega) (by have := HVS.o; omega) HA.o.chk HBO1.o HA.o.god HSN1.o).mono ?_
  rintro e w6 ⟨rfl, hb6⟩
  replace F_g := Lh (F_g.o.keep hb6)
  replace F_b := Lh (F_b.o.keep hb6)
  replace F_v := Lh (F_v.o.keep hb6)
  replace F_r := Lh (F_r.o.keep hb6)
  replace HB1 := Lh (HB1.o.keep hb6)
  replace HBK1 := Lh (HBK1.o.keep hb6)
  replace HUC1 := Lh (HUC1.o.keep hb6)
  replace HUI1 := Lh (HUI1.o.keep hb6)
  replace F_c := Lh (F_c.o.keep hb6)
  replace F_k := Lh (F_k.o.keep hb6)
  replace HBW := Lh (HBW.o.trans (hb6.mono HBW.o.size))
  clear hb6
  replace F_g := Lh (F_g.o.keep ((Below.refl _ _).alloc (Nat.le_refl _) (.cells #[.slice none 0 0, .slice none 0 0, .slice none 0 0] 53)))
  replace F_b := Lh (F_b.o.keep ((Below.refl _ _).alloc (Nat.le_refl _) (.cells #[.slice none 0 0, .slice none 0 0, .slice none 0 0] 53)))
  replace F_v := Lh (F_v.o.keep ((Below.refl _ _).alloc (Nat.le_refl _) (.cells #[.slice none 0 0, .slice none 0 0, .slice none 0 0] 53)))
  replace F_r := Lh (F_r.o.keep ((Below.refl _ _).alloc (Nat.le_refl _) (.cells #[.slice none 0 0, .slice none 0 0, .slice none 0 0] 53)))
  replace HB1 := Lh (HB1.o.keep ((Below.refl _ _).alloc (Nat.le_refl _) (.cells #[.slice none 0 0, .slice none 0 0, .slice none 0 0] 53)))
  replace HBK1 := Lh (HBK1.o.keep ((Below.refl _ _).alloc (Nat.le_refl _) (.cells #[.slice none 0 0, .slice none 0 0, .slice none 0 0] 53)))
  replace HUC1 := Lh (HUC1.o.keep ((Below.refl _ _).alloc (Nat.le_refl _) (.cells #[.slice none 0 0, .slice none 0 0, .slice none 0 0] 53)))
  replace HUI1 := Lh (HUI1.o.keep ((Below.refl _ _).alloc (Nat.le_refl _) (.cells #[.slice none 0 0, .slice none 0 0, .slice none 0 0] 53)))
  replace F_c := Lh (F_c.o.keep ((Below.refl _ _).alloc (Nat.le_refl _) (.cells #[.slice none 0 0, .slice none 0 0, .slice none 0 0] 53)))
  replace F_k := Lh (F_k.o.keep ((Below.refl _ _).alloc (Nat.le_refl _) (.cells #[.slice none 0 0, .slice none 0 0, .slice none 0 0] 53)))
  replace HBW := Lh (HBW.o.alloc HBW.o.size (.cells #[.slice none 0 0, .slice none 0 0, .slice none 0 0] 53))
  have q_g_0 := F_g.o.c 0 _ rfl
  have q_g_1 := F_g.o.c 1 _ rfl
  have q_g_2 := F_g.o.c 2 _ rfl
  have q_c_0 := F_c.o.c 0 _ rfl
  have q_c_1 := F_c.o.c 1 _ rfl
  have q_c_2 := F_c.o.c 2 _ rfl
  have q_v_0 := F_v.o.c 0 _ rfl
  have q_v_1 := F_v.o.c 1 _ rfl
  have q_v_2 := F_v.o.c 2 _ rfl
  have q_v_3 := F_v.o.c 3 _ rfl
  have q_v_4 := F_v.o.c 4 _ rfl
  have q_v_5 := F_v.o.c 5 _ rfl
  have q_v_6 := F_v.o.c 6 _ rfl
  have q_v_7 := F_v.o.c 7 _ rfl
  have q_v_8 := F_v.o.c 8 _ rfl
  have q_v_9 := F_v.o.c 9 _ rfl
  have q_v_10 := F_v.o.c 10 _ rfl
  have q_r_0 := F_r.o.c 0 _ rfl
  have q_r_1 := F_r.o.c 1 _ rfl
  go_wp2_with fail
  clear q_g_0 q_g_1 q_g_2 q_c_0 q_c_1 q_c_2 q_v_0 q_v_1 q_v_2 q_v_3 q_v_4 q_v_5 q_v_6 q_v_7 q_v_8 q_v_9 q_v_10 q_r_0 q_r_1
  refine (once_chal_seen (R := R) (n := n) (B := ⟨some ⟨s1, o1, none⟩, B.n + 1, c1, l1, b1, B.m, d1, g1, e1, B.m, f1, t1⟩) (V := V) (one := one) _ (HT.o.below HBW.o) hP hQ hG hy HB1.o HSM1.o (HV.o.keep HBW.o) (by have := HVS.o; omega) (by have := HVS.o; omega) (HR.o.keep HBW.o) (by have := HRS.o; omega) (by have := HRS.o; omega) HA.o.chk HBO1.o HA.o.god HSN1.o).mono ?_
  rintro e w8 ⟨rfl, hb8⟩
  replace F_g := Lh (F_g.o.keep hb8)
  replace F_b := Lh (F_b.o.keep hb8)
  replace F_v := Lh (F_v.o.keep hb8)
  replace F_r := Lh (F_r.o.keep hb8)
  replace HB1 := Lh (HB1.o.keep hb8)
  replace HBK1 := Lh (HBK1.o.keep hb8)
  replace HUC1 := Lh (HUC1.o.keep hb8)
  replace HUI1 := Lh (HUI1.o.keep hb8)
  replace F_c := Lh (F_c.o.keep hb8)
  replace F_k := Lh (F_k.o.keep hb8)
  replace HBW := Lh (HBW.o.trans (hb8.mono HBW.o.size))
  clear hb8
  replace F_g := Lh (F_g.o.keep ((Below.refl _ _).alloc (Nat.le_refl _) (.cells #[.slice none 0 0, .slice none 0 0, .slice none 0 0] 53)))
  replace F_b := Lh (F_b.o.keep ((Below.refl _ _).alloc (Nat.le_refl _) (.cells #[.slice none 0 0, .slice none 0 0, .slice none 0 0] 53)))
  replace F_v := Lh (F_v.o.keep ((Below.refl _ _).alloc (Nat.le_refl _) (.cells #[.slice none 0 0, .slice none 0 0, .slice none 0 0] 53)))
  replace F_r := Lh (F_r.o.keep ((Below.refl _ _).alloc (Nat.le_refl _) (.cells #[.slice none 0 0, .slice none 0 0, .slice none 0 0] 53)))
  replace HB1 := Lh (HB1.o.keep ((Below.refl _ _).alloc (Nat.le_refl _) (.cells #[.slice none 0 0, .slice none 0 0, .slice none 0 0] 53)))
  replace HBK1 := Lh (HBK1.o.keep ((Below.refl _ _).alloc (Nat.le_refl _) (.cells #[.slice none 0 0, .slice none 0 0, .slice none 0 0] 53)))
  replace HUC1 := Lh (HUC1.o.keep ((Below.refl _ _).alloc (Nat.le_refl _) (.cells #[.slice none 0 0, .slice none 0 0, .slice none 0 0] 53)))
  replace HUI1 := Lh (HUI1.o.keep ((Below.refl _ _).alloc (Nat.le_refl _) (.cells #[.slice none 0 0, .slice none 0 0, .slice none 0 0] 53)))
  replace F_c := Lh (F_c.o.keep ((Below.refl _ _).alloc (Nat.le_refl _) (.cells #[.slice none 0 0, .slice none 0 0, .slice none 0 0] 53)))
  replace F_k := Lh (F_k.o.keep ((Below.refl _ _).alloc (Nat.le_refl _) (.cells #[.slice none 0 0, .slice none 0 0, .slice none 0 0] 53)))
  replace HBW := Lh (HBW.o.alloc HBW.o.size (.cells #[.slice none 0 0, .slice none 0 0, .slice none 0 0] 53))
  go_wp2_with fail
  have cV : Tryd.prog.cellsOf 29 = 11 := by kernel_rfl
  have hlt1 : (B.n : Int) < (B.n : Int) + 1 := by omega
  have hge1 : (0 : Int) ≤ (B.n : Int) := by omega
  replace F_g := Lh (F_g.o.keep (Below.refl _ _).drew)
  replace F_b := Lh (F_b.o.keep (Below.refl _ _).drew)
  replace F_v := Lh (F_v.o.keep (Below.refl _ _).drew)
  replace F_r := Lh (F_r.o.keep (Below.refl _ _).drew)
  replace HB1 := Lh (HB1.o.keep (Below.refl _ _).drew)
  replace HBK1 := Lh (HBK1.o.keep (Below.refl _ _).drew)
  replace HUC1 := Lh (HUC1.o.keep (Below.refl _ _).drew)
  replace HUI1 := Lh (HUI1.o.keep (Below.refl _ _).drew)
  replace F_c := Lh (F_c.o.keep (Below.refl _ _).drew)
  replace F_k := Lh (F_k.o.keep (Below.refl _ _).drew)
  replace HBW := Lh HBW.o.drew
  have hS0 := And.intro F_g.o (And.intro F_c.o (And.intro F_k.o (And.intro F_b.o (And.intro F_v.o HUC1.o))))
  refine wp_region_stage 33 (fun w' => Cl w' w.heap.size [.int .u64 P, .int .u64 Q, .int .u64 G] ∧ Cl w' CB [.slice (some ⟨s1, o1, none⟩) (B.n + 1) c1, .slice b1 B.m d1, .slice e1 B.m f1] ∧ Cl w' wa.heap.size [.slice (some ⟨s1, o1, none⟩) B.n c1, .slice b1 B.m d1, .slice e1 B.m f1] ∧ Cl w' (w.heap.size + 1) [.slice B.a B.n B.c, .slice B.b B.m B.d, .slice B.e B.k B.f] ∧ Cl w' (w.heap.size + 1 + 1) V.cl ∧ VCells w' s1 (o1 + B.n * 11) U1) (by kernel_rfl) ?_
  refine tkL (i := 0) (some 108) (.load 49 (.tmp 7)) 49 [5, 6, 7, 8, 9, 10, 11, 12, 13, 14, 15, 16, 17, 18, 19, 20, 21, 22, 23, 24, 25, 26, 27, 28, 29, 30, 31, 32, 33] (v := ?_) hS0 (fun w' hSw => ?_) ?_
  rotate_left
  · obtain ⟨t1, t2, t3, t4, t5, t6⟩ := hSw; have g0 := t1.c 0 _ rfl; have c0_ := t2.c 0 _ rfl; have k0 := t3.c 0 _ rfl; have b0_ := t4.c 0 _ rfl; have g1 := t1.c 1 _ rfl; have c1_ := t2.c 1 _ rfl; have k1 := t3.c 1 _ rfl; have b1_ := t4.c 1 _ rfl; have g2 := t1.c 2 _ rfl; have c2_ := t2.c 2 _ rfl; have k2 := t3.c 2 _ rfl; have b2_ := t4.c 2 _ rfl; obtain ⟨⟨q0, q1, q2, q3, q4, q5, q6, q7, q8, q9, q10⟩, -⟩ := t5.k11; obtain ⟨-, z0, z1, z2, z3, z4, z5, z6, z7, z8, z9, z10⟩ := t6
    unfold bareOp; go_simp; try with_reducible rfl
  simp only [Act.put, sZ]
  refine tkP (i := 1) (some 109) (.move (.tmp 1)) 24 (fun _ => hS0) ?_
  simp only [Act.put, sZ]
  refine tkP (i := 2) (some 110) (.move (.tmp 2)) 3 (fun _ => hS0) ?_
  simp only [Act.put, sZ]
  refine tkP (i := 3) (some 111) (.move (.tmp 3)) 4 (fun _ => hS0) ?_
  simp only [Act.put, sZ]
  refine tkL (i := 4) (some 112) (.load 53 (.tmp 16)) 53 [5, 6, 7, 8, 9, 10, 11, 12, 13, 14, 15, 16, 17, 18, 19, 20, 21, 22, 23, 24, 25, 26, 27, 28, 29, 30, 31, 32, 33] (v := ?_) hS0 (fun w' hSw => ?_) ?_
  rotate_left
  · obtain ⟨t1, t2, t3, t4, t5, t6⟩ := hSw; have g0 := t1.c 0 _ rfl; have c0_ := t2.c 0 _ rfl; have k0 := t3.c 0 _ rfl; have b0_ := t4.c 0 _ rfl; have g1 := t1.c 1 _ rfl; have c1_ := t2.c 1 _ rfl; have k1 := t3.c 1 _ rfl; have b1_ := t4.c 1 _ rfl; have g2 := t1.c 2 _ rfl; have c2_ := t2.c 2 _ rfl; have k2 := t3.c 2 _ rfl; have b2_ := t4.c 2 _ rfl; obtain ⟨⟨q0, q1, q2, q3, q4, q5, q6, q7, q8, q9, q10⟩, -⟩ := t5.k11; obtain ⟨-, z0, z1, z2, z3, z4, z5, z6, z7, z8, z9, z10⟩ := t6
    unfold bareOp; go_simp; try with_reducible rfl
  simp only [Act.put, sZ]
  refine onl (i := 5) (some 113) (.call { callee := .value (.func 21), args := #[.tmp 108, .tmp 109, .tmp 110, .tmp 111, .tmp 112], argTypes := #[49, 24, 3, 4, 53] }) 32 (fun K hK => ?_)
  unfold bareOp
  refine OpW.out (wp_of_enter (run_call _ _ _ _ 21 Tryd.func21 (vs := #[.agg #[.int .u64 P, .int .u64 Q, .int .u64 G], .int .u64 y, .int .i64 n, .bool one, .agg #[.slice (some ⟨s1, o1, none⟩) (B.n + 1) c1, .slice b1 B.m d1, .slice e1 B.m f1]]) (by simp only [List.map_toArray, List.map_cons, List.map_nil]; rfl) rfl (by kernel_rfl) (by kernel_rfl)) (once_valid (n := n) (one := one) (B := ⟨some ⟨s1, o1, none⟩, B.n + 1, c1, l1, b1, B.m, d1, g1, e1, B.m, f1, t1⟩) _ (HT.o.below HBW.o) hP hQ hG hy HB1.o HSM1.o HA.o.chk HBO1.o) ?_)
  rintro e w7 ⟨rfl, hb7⟩
  refine ⟨_, rfl, ?_⟩
  replace F_g := Lh (F_g.o.keep hb7)
  replace F_b := Lh (F_b.o.keep hb7)
  replace F_v := Lh (F_v.o.keep hb7)
  replace F_r := Lh (F_r.o.keep hb7)
  replace HB1 := Lh (HB1.o.keep hb7)
  replace HBK1 := Lh (HBK1.o.keep hb7)
  replace HUC1 := Lh (HUC1.o.keep hb7)
  replace HUI1 := Lh (HUI1.o.keep hb7)
  replace F_c := Lh (F_c.o.keep hb7)
  replace F_k := Lh (F_k.o.keep hb7)
  replace HBW := Lh (HBW.o.trans (hb7.mono HBW.o.size))
  clear hb7 hS0
  have hS0 := And.intro F_g.o (And.intro F_c.o (And.intro F_k.o (And.intro F_b.o (And.intro F_v.o HUC1.o))))
  refine hK.o _ _ (fun _ => hS0) ?_
  clear hK K
  try simp only [Act.put, sZ]
  refine tkP (i := 6) (some 114) (.binOp .neq 32 (.tmp 113) (.const (.int .i64 0)) 32) 4 (fun _ => hS0) ?_
  simp only [Act.put, sZ]
  refine tkP (i := 7) (some 115) (.move (.tmp 114)) 4 (fun _ => hS0) ?_
  simp only [Act.put, sZ]
  refine tkPG (i := 8) (some 116) (.move (.tmp 20)) 32 (some (7, false)) (fun _ => hS0) ?_
  simp only [Act.put, sZ]
  refine tkPG (i := 9) (some 117) (.binOp .neq 32 (.tmp 116) (.const (.int .i64 361)) 32) 4 (some (7, false)) (fun _ => hS0) ?_
  simp only [Act.put, sZ]
  refine tkP (i := 10) (some 118) (.pick (.tmp 115) (.const (.bool true)) (.tmp 117)) 4 (fun _ => hS0) ?_
  simp only [Act.put, sZ]
  refine tkP (i := 11) (some 119) (.move (.tmp 118)) 4 (fun _ => hS0) ?_
  simp only [Act.put, sZ]
  refine tkPG (i := 12) (some 120) (.move (.tmp 22)) 32 (some (11, false)) (fun _ => hS0) ?_
  simp only [Act.put, sZ]
  refine tkPG (i := 13) (some 121) (.binOp .neq 32 (.tmp 120) (.const (.int .i64 361)) 32) 4 (some (11, false)) (fun _ => hS0) ?_
  simp only [Act.put, sZ]
  refine tkP (i := 14) (some 122) (.pick (.tmp 119) (.const (.bool true)) (.tmp 121)) 4 (fun _ => hS0) ?_
  simp only [Act.put, sZ]
  refine tkP (i := 15) (some 123) (.move (.tmp 122)) 4 (fun _ => hS0) ?_
  simp only [Act.put, sZ]
  refine tkLG (i := 16) (some 124) (.load 53 (.tmp 18)) 53 (some (15, false)) [18, 19, 20, 21, 22, 23, 24, 25, 26, 27, 28, 29, 30, 31, 32, 33] (v := ?_) hS0 (fun w' hSw => ?_) ?_
  rotate_left
  · obtain ⟨t1, t2, t3, t4, t5, t6⟩ := hSw; have g0 := t1.c 0 _ rfl; have c0_ := t2.c 0 _ rfl; have k0 := t3.c 0 _ rfl; have b0_ := t4.c 0 _ rfl; have g1 := t1.c 1 _ rfl; have c1_ := t2.c 1 _ rfl; have k1 := t3.c 1 _ rfl; have b1_ := t4.c 1 _ rfl; have g2 := t1.c 2 _ rfl; have c2_ := t2.c 2 _ rfl; have k2 := t3.c 2 _ rfl; have b2_ := t4.c 2 _ rfl; obtain ⟨⟨q0, q1, q2, q3, q4, q5, q6, q7, q8, q9, q10⟩, -⟩ := t5.k11; obtain ⟨-, z0, z1, z2, z3, z4, z5, z6, z7, z8, z9, z10⟩ := t6
    unfold bareOp; go_simp; try with_reducible rfl
  simp only [Act.put, sZ]
  refine tkLG (i := 17) (some 125) (.load 53 (.tmp 11)) 53 (some (15, false)) [18, 19, 20, 21, 22, 23, 24, 25, 26, 27, 28, 29, 30, 31, 32, 33] (v := ?_) hS0 (fun w' hSw => ?_) ?_
  rotate_left
  · obtain ⟨t1, t2, t3, t4, t5, t6⟩ := hSw; have g0 := t1.c 0 _ rfl; have c0_ := t2.c 0 _ rfl; have k0 := t3.c 0 _ rfl; have b0_ := t4.c 0 _ rfl; have g1 := t1.c 1 _ rfl; have c1_ := t2.c 1 _ rfl; have k1 := t3.c 1 _ rfl; have b1_ := t4.c 1 _ rfl; have g2 := t1.c 2 _ rfl; have c2_ := t2.c 2 _ rfl; have k2 := t3.c 2 _ rfl; have b2_ := t4.c 2 _ rfl; obtain ⟨⟨q0, q1, q2, q3, q4, q5, q6, q7, q8, q9, q10⟩, -⟩ := t5.k11; obtain ⟨-, z0, z1, z2, z3, z4, z5, z6, z7, z8, z9, z10⟩ := t6
    unfold bareOp; go_simp; try with_reducible rfl
  simp only [Act.put, sZ]
  refine wpAnyB_onlyG (i := 18) (some 126) (.call { callee := .value (.func 22), args := #[.tmp 124, .tmp 125], argTypes := #[53, 53] }) 4 (some (15, false)) ⟨_, rfl, rfl, rfl, rfl, rfl⟩ (by kernel_rfl) rfl (fun K hK => ?_)
  unfold bareOp
  refine OpW.out (wp_of_enter (run_call _ _ _ _ 22 Tryd.func22 (vs := #[.agg #[.slice (some ⟨s1, o1, none⟩) B.n c1, .slice b1 B.m d1, .slice e1 B.m f1], .agg #[.slice B.a B.n B.c, .slice B.b B.m B.d, .slice B.e B.k B.f]]) (by simp only [List.map_toArray, List.map_cons, List.map_nil]; rfl) rfl (by kernel_rfl) (by kernel_rfl)) (rSame36_any (B := B) (C := ⟨some ⟨s1, o1, none⟩, B.n, c1, l1.take B.n, b1, B.m, d1, g1, e1, B.m, f1, t1⟩) _ (HB.o.keep HBW.o) HBK1.o HSB1.o (by omega) (by omega) hbk (fun X hX => HV1.o X ((List.mem_append.1 hX).elim (fun h => List.mem_append.2 (.inl (List.mem_of_mem_take h))) (fun h => List.mem_append.2 (.inr h)))) HR1.o) ?_)
  rintro e w7 ⟨rfl, hb7⟩
  refine ⟨_, rfl, ?_⟩
  replace F_g := Lh (F_g.o.keep hb7)
  replace F_b := Lh (F_b.o.keep hb7)
  replace F_v := Lh (F_v.o.keep hb7)
  replace F_r := Lh (F_r.o.keep hb7)
  replace HB1 := Lh (HB1.o.keep hb7)
  replace HBK1 := Lh (HBK1.o.keep hb7)
  replace HUC1 := Lh (HUC1.o.keep hb7)
  replace HUI1 := Lh (HUI1.o.keep hb7)
  replace F_c := Lh (F_c.o.keep hb7)
  replace F_k := Lh (F_k.o.keep hb7)
  replace HBW := Lh (HBW.o.trans (hb7.mono HBW.o.size))
  clear hb7 hS0
  have hS0 := And.intro F_g.o (And.intro F_c.o (And.intro F_k.o (And.intro F_b.o (And.intro F_v.o HUC1.o))))
  refine hK.o _ _ (fun _ => hS0) ?_
  clear hK K
  try simp only [Act.put, sZ]
  refine tkPG (i := 19) (some 127) (.unOp .not 4 (.tmp 126)) 4 (some (15, false)) (fun _ => hS0) ?_
  simp only [Act.put, sZ]
  refine tkP (i := 20) (some 128) (.pick (.tmp 123) (.const (.bool true)) (.tmp 127)) 4 (fun _ => hS0) ?_
  simp only [Act.put, sZ]
  refine tkP (i := 21) (some 129) (.move (.tmp 128)) 4 (fun _ => hS0) ?_
  simp only [Act.put, sZ]
  refine tkPG (i := 22) (some 130) (.fieldAddr 53 (.tmp 16) 0) 0 (some (21, false)) (fun _ => hS0) ?_
  simp only [Act.put, sZ]
  refine tkLG (i := 23) (some 131) (.load 50 (.tmp 130)) 50 (some (21, false)) [28, 29, 31, 32, 33] (v := ?_) hS0 (fun w' hSw => ?_) ?_
  rotate_left
  · obtain ⟨t1, t2, t3, t4, t5, t6⟩ := hSw; have g0 := t1.c 0 _ rfl; have c0_ := t2.c 0 _ rfl; have k0 := t3.c 0 _ rfl; have b0_ := t4.c 0 _ rfl; have g1 := t1.c 1 _ rfl; have c1_ := t2.c 1 _ rfl; have k1 := t3.c 1 _ rfl; have b1_ := t4.c 1 _ rfl; have g2 := t1.c 2 _ rfl; have c2_ := t2.c 2 _ rfl; have k2 := t3.c 2 _ rfl; have b2_ := t4.c 2 _ rfl; obtain ⟨⟨q0, q1, q2, q3, q4, q5, q6, q7, q8, q9, q10⟩, -⟩ := t5.k11; obtain ⟨-, z0, z1, z2, z3, z4, z5, z6, z7, z8, z9, z10⟩ := t6
    unfold bareOp; go_simp; try with_reducible rfl
  simp only [Act.put, sZ]
  refine tkPG (i := 24) (some 132) (.fieldAddr 53 (.tmp 16) 0) 0 (some (21, false)) (fun _ => hS0) ?_
  simp only [Act.put, sZ]
  refine tkLG (i := 25) (some 133) (.load 50 (.tmp 132)) 50 (some (21, false)) [26, 27, 28, 29, 31, 32, 33] (v := ?_) hS0 (fun w' hSw => ?_) ?_
  rotate_left
  · obtain ⟨t1, t2, t3, t4, t5, t6⟩ := hSw; have g0 := t1.c 0 _ rfl; have c0_ := t2.c 0 _ rfl; have k0 := t3.c 0 _ rfl; have b0_ := t4.c 0 _ rfl; have g1 := t1.c 1 _ rfl; have c1_ := t2.c 1 _ rfl; have k1 := t3.c 1 _ rfl; have b1_ := t4.c 1 _ rfl; have g2 := t1.c 2 _ rfl; have c2_ := t2.c 2 _ rfl; have k2 := t3.c 2 _ rfl; have b2_ := t4.c 2 _ rfl; obtain ⟨⟨q0, q1, q2, q3, q4, q5, q6, q7, q8, q9, q10⟩, -⟩ := t5.k11; obtain ⟨-, z0, z1, z2, z3, z4, z5, z6, z7, z8, z9, z10⟩ := t6
    unfold bareOp; go_simp; try with_reducible rfl
  simp only [Act.put, sZ]
  refine tkPG (i := 26) (some 134) (.call { callee := .builtin .len, args := #[.tmp 133], argTypes := #[50] }) 3 (some (21, false)) (fun _ => hS0) ?_
  simp only [Act.put, sZ]
  refine tkPG (i := 27) (some 135) (.binOp .sub 3 (.tmp 134) (.const (.int .i64 1)) 3) 3 (some (21, false)) (fun _ => hS0) ?_
  simp only [Act.put, sZ]
  refine tkPG (i := 28) (some 136) (.indexAddr 50 (.tmp 131) (.tmp 135)) 0 (some (21, false)) (fun _ => hS0) ?_
  simp only [Act.put, sZ]
  refine tkLG (i := 29) (some 137) (.load 29 (.tmp 136)) 29 (some (21, false)) [31, 32, 33] (v := ?_) hS0 (fun w' hSw => ?_) ?_
  rotate_left
  · obtain ⟨t1, t2, t3, t4, t5, t6⟩ := hSw; have g0 := t1.c 0 _ rfl; have c0_ := t2.c 0 _ rfl; have k0 := t3.c 0 _ rfl; have b0_ := t4.c 0 _ rfl; have g1 := t1.c 1 _ rfl; have c1_ := t2.c 1 _ rfl; have k1 := t3.c 1 _ rfl; have b1_ := t4.c 1 _ rfl; have g2 := t1.c 2 _ rfl; have c2_ := t2.c 2 _ rfl; have k2 := t3.c 2 _ rfl; have b2_ := t4.c 2 _ rfl; obtain ⟨⟨q0, q1, q2, q3, q4, q5, q6, q7, q8, q9, q10⟩, -⟩ := t5.k11; obtain ⟨-, z0, z1, z2, z3, z4, z5, z6, z7, z8, z9, z10⟩ := t6
    unfold bareOp; go_simp; try with_reducible rfl
  simp only [Act.put, sZ]
  refine tkLG (i := 30) (some 138) (.load 29 (.tmp 12)) 29 (some (21, false)) [31, 32, 33] (v := ?_) hS0 (fun w' hSw => ?_) ?_
  rotate_left
  · obtain ⟨t1, t2, t3, t4, t5, t6⟩ := hSw; have g0 := t1.c 0 _ rfl; have c0_ := t2.c 0 _ rfl; have k0 := t3.c 0 _ rfl; have b0_ := t4.c 0 _ rfl; have g1 := t1.c 1 _ rfl; have c1_ := t2.c 1 _ rfl; have k1 := t3.c 1 _ rfl; have b1_ := t4.c 1 _ rfl; have g2 := t1.c 2 _ rfl; have c2_ := t2.c 2 _ rfl; have k2 := t3.c 2 _ rfl; have b2_ := t4.c 2 _ rfl; obtain ⟨⟨q0, q1, q2, q3, q4, q5, q6, q7, q8, q9, q10⟩, -⟩ := t5.k11; obtain ⟨-, z0, z1, z2, z3, z4, z5, z6, z7, z8, z9, z10⟩ := t6
    unfold bareOp; go_simp; try with_reducible rfl
  simp only [Act.put, sZ]
  refine wpAnyB_onlyG (i := 31) (some 139) (.call { callee := .value (.func 16), args := #[.tmp 137, .tmp 138], argTypes := #[29, 29] }) 4 (some (21, false)) ⟨_, rfl, rfl, rfl, rfl, rfl⟩ (by kernel_rfl) rfl (fun K hK => ?_)
  unfold bareOp
  refine OpW.out (wp_of_enter (run_call _ _ _ _ 16 Tryd.func16 (vs := #[U1.v, V.v]) (by simp only [List.map_toArray, List.map_cons, List.map_nil]; rfl) rfl (by kernel_rfl) (by kernel_rfl)) (rSame_any (V := U1) (U := V) _ HUI1.o (HV.o.keep HBW.o) HSU.o.2.1 HSU.o.2.2.2.1 HSU.o.2.2.2.2.1 HSU.o.2.2.2.2.2 (by have := HSU.o.1; have := HVS.o; omega) (by have := HSU.o.2.2.1; have := HVS.o; omega)) ?_)
  rintro e w7 ⟨rfl, hb7⟩
  refine ⟨_, rfl, ?_⟩
  replace F_g := Lh (F_g.o.keep hb7)
  replace F_b := Lh (F_b.o.keep hb7)
  replace F_v := Lh (F_v.o.keep hb7)
  replace F_r := Lh (F_r.o.keep hb7)
  replace HB1 := Lh (HB1.o.keep hb7)
  replace HBK1 := Lh (HBK1.o.keep hb7)
  replace HUC1 := Lh (HUC1.o.keep hb7)
  replace HUI1 := Lh (HUI1.o.keep hb7)
  replace F_c := Lh (F_c.o.keep hb7)
  replace F_k := Lh (F_k.o.keep hb7)
  replace HBW := Lh (HBW.o.trans (hb7.mono HBW.o.size))
  clear hb7 hS0
  have hS0 := And.intro F_g.o (And.intro F_c.o (And.intro F_k.o (And.intro F_b.o (And.intro F_v.o HUC1.o))))
  refine hK.o _ _ (fun _ => hS0) ?_
  clear hK K
  try simp only [Act.put, sZ]
  refine tkPG (i := 32) (some 140) (.unOp .not 4 (.tmp 139)) 4 (some (21, false)) (fun _ => hS0) ?_
  simp only [Act.put, sZ]
  refine onl (i := 33) (some 141) (.pick (.tmp 129) (.const (.bool true)) (.tmp 140)) 4 (fun K hK => ?_)
  unfold bareOp
  go_wp2_with fail
  refine hK.o _ _ lt8 ?_
  clear hK K
  try simp only [Act.put, sZ]
  refine wpAnyB_done (by kernel_rfl) ?_ _
  clear hS0 HUC1 HUI1 HB1 HBK1 F_c F_k
  by_cases hM : rangeP Q n.toNat R ∧ matchP P G y n.toNat V R
  case neg =>
   have q_g_0 := F_g.o.c 0 _ rfl
   have q_g_1 := F_g.o.c 1 _ rfl
   have q_g_2 := F_g.o.c 2 _ rfl
   have q_b_0 := F_b.o.c 0 _ rfl
   have q_b_1 := F_b.o.c 1 _ rfl
   have q_b_2 := F_b.o.c 2 _ rfl
   have q_v_0 := F_v.o.c 0 _ rfl
   have q_v_1 := F_v.o.c 1 _ rfl
   have q_v_2 := F_v.o.c 2 _ rfl
   have q_v_3 := F_v.o.c 3 _ rfl
   have q_v_4 := F_v.o.c 4 _ rfl
   have q_v_5 := F_v.o.c 5 _ rfl
   have q_v_6 := F_v.o.c 6 _ rfl
   have q_v_7 := F_v.o.c 7 _ rfl
   have q_v_8 := F_v.o.c 8 _ rfl
   have q_v_9 := F_v.o.c 9 _ rfl
   have q_v_10 := F_v.o.c 10 _ rfl
   have q_r_0 := F_r.o.c 0 _ rfl
   have q_r_1 := F_r.o.c 1 _ rfl
   go_wp2_with fail
   clear q_g_0 q_g_1 q_g_2 q_b_0 q_b_1 q_b_2 q_v_0 q_v_1 q_v_2 q_v_3 q_v_4 q_v_5 q_v_6 q_v_7 q_v_8 q_v_9 q_v_10 q_r_0 q_r_1
   refine (once_chal_no (n := n) (V := V) (R := R) (one := one) _ (HT.o.below HBW.o) hP hQ hG hy (HB.o.keep HBW.o) HSM.o (HV.o.keep HBW.o) (by have := HVS.o; omega) (by have := HVS.o; omega) (HR.o.keep HBW.o) (by have := HRS.o; omega) (by have := HRS.o; omega) (fun h => hM h.2) HF8.o).mono ?_
   rintro e w9 ⟨⟨es, esh, rfl⟩, hb9⟩
   replace F_g := Lh (F_g.o.keep hb9)
   replace F_b := Lh (F_b.o.keep hb9)
   replace F_v := Lh (F_v.o.keep hb9)
   replace F_r := Lh (F_r.o.keep hb9)
   replace HBW := Lh (HBW.o.trans (hb9.mono HBW.o.size))
   clear hb9
   have es1 : decide (es = 0) = false := decide_eq_false esh
   have es2 : (es == 0) = false := by simpa using esh
   replace F_g := Lh (F_g.o.keep ((Below.refl _ _).alloc (Nat.le_refl _) (.cells #[.slice none 0 0, .slice none 0 0, .slice none 0 0] 53)))
   replace F_b := Lh (F_b.o.keep ((Below.refl _ _).alloc (Nat.le_refl _) (.cells #[.slice none 0 0, .slice none 0 0, .slice none 0 0] 53)))
   replace F_v := Lh (F_v.o.keep ((Below.refl _ _).alloc (Nat.le_refl _) (.cells #[.slice none 0 0, .slice none 0 0, .slice none 0 0] 53)))
   replace F_r := Lh (F_r.o.keep ((Below.refl _ _).alloc (Nat.le_refl _) (.cells #[.slice none 0 0, .slice none 0 0, .slice none 0 0] 53)))
   replace HBW := Lh (HBW.o.alloc HBW.o.size (.cells #[.slice none 0 0, .slice none 0 0, .slice none 0 0] 53))
   go_wp2_with fail
   go_ret
   exact ⟨rfl, HBW.o⟩
  case pos =>
  have HM := Lh hM
  clear hM
  have q_g_0 := F_g.o.c 0 _ rfl
  have q_g_1 := F_g.o.c 1 _ rfl
  have q_g_2 := F_g.o.c 2 _ rfl
  have q_b_0 := F_b.o.c 0 _ rfl
  have q_b_1 := F_b.o.c 1 _ rfl
  have q_b_2 := F_b.o.c 2 _ rfl
  have q_v_0 := F_v.o.c 0 _ rfl
  have q_v_1 := F_v.o.c 1 _ rfl
  have q_v_2 := F_v.o.c 2 _ rfl
  have q_v_3 := F_v.o.c 3 _ rfl
  have q_v_4 := F_v.o.c 4 _ rfl
  have q_v_5 := F_v.o.c 5 _ rfl
  have q_v_6 := F_v.o.c 6 _ rfl
  have q_v_7 := F_v.o.c 7 _ rfl
  have q_v_8 := F_v.o.c 8 _ rfl
  have q_v_9 := F_v.o.c 9 _ rfl
  have q_v_10 := F_v.o.c 10 _ rfl
  have q_r_0 := F_r.o.c 0 _ rfl
  have q_r_1 := F_r.o.c 1 _ rfl
  go_wp2_with fail
  clear q_g_0 q_g_1 q_g_2 q_b_0 q_b_1 q_b_2 q_v_0 q_v_1 q_v_2 q_v_3 q_v_4 q_v_5 q_v_6 q_v_7 q_v_8 q_v_9 q_v_10 q_r_0 q_r_1
  refine (once_chal_ok (n := n) (V := V) (R := R) (one := one) _ (HT.o.below HBW.o) hP hQ hG hy (HB.o.keep HBW.o) HSM.o (HV.o.keep HBW.o) (by have := HVS.o; omega) (by have := HVS.o; omega) (HR.o.keep HBW.o) (by have := HRS.o; omega) (by have := HRS.o; omega) HA.o HM.o HF8.o).mono ?_
  rintro e w9 ⟨hbk9, hb9⟩
  replace F_g := Lh (F_g.o.keep hb9)
  replace F_b := Lh (F_b.o.keep hb9)
  replace F_v := Lh (F_v.o.keep hb9)
  replace F_r := Lh (F_r.o.keep hb9)
  replace HBW := Lh (HBW.o.trans (hb9.mono HBW.o.size))
  clear hb9
  obtain ⟨B2, rfl, hi2, hn2, hm2, hk2, hS2, hcp2, -⟩ := hbk9
  obtain ⟨a2, n2, c2, l2, b2, m2, d2, g2, e2, k2, f2, t2⟩ := B2
  simp only at hn2 hm2 hk2 hcp2
  subst hn2 hm2
  obtain rfl : k2 = B.m + 1 := by rw [hk2, HKM.o]
  obtain ⟨s2, o2, U2, hsb, hUL, hUC, hUI⟩ := hi2.h2.at B.m (Nat.lt_succ_self _)
  simp only at hsb
  subst hsb
  obtain ⟨s3, o3, T2, hsc, hTL, hTs, hT0, hT1, hTI⟩ := hi2.h3.at B.m (Nat.lt_succ_self _)
  simp only at hsc
  subst hsc
  have HSU2 := Lh (Vt.same_of_key (keys_last Vt.key hS2.k2 HLN.o.2.1 hUL))
  have HST2 := Lh (Rv.same_of_key (keys_last Rv.key hS2.k3 (HLN.o.2.2.trans HKM.o) hTL))
  have HBO2 := Lh (show boothP P Q G y n.toNat one ⟨a2, B.n, c2, l2, some ⟨s2, o2, none⟩, B.m + 1, d2, g2, some ⟨s3, o3, none⟩, B.m + 1, f2, t2⟩ from booth_chal HA.o.boo HA.o.god HA.o.new (by have := HF8.o; omega) HM.o (by rw [HLN.o.2.1, HLN.o.2.2, HKM.o]) rfl rfl (by simp only; rw [HKM.o]) hS2)
  have HSN2 := Lh (show V.cd ∈ cds (Bo.l ⟨a2, B.n, c2, l2, some ⟨s2, o2, none⟩, B.m + 1, d2, g2, some ⟨s3, o3, none⟩, B.m + 1, f2, t2⟩ ++ Bo.l' ⟨a2, B.n, c2, l2, some ⟨s2, o2, none⟩, B.m + 1, d2, g2, some ⟨s3, o3, none⟩, B.m + 1, f2, t2⟩) from seen_chal hS2)
  have HSB2 := Lh (show SameB ⟨a2, B.n, c2, l2, some ⟨s2, o2, none⟩, B.m, d2, g2.take B.m, some ⟨s3, o3, none⟩, B.m, f2, t2.take B.m⟩ B.l B.l' B.rs from ⟨hS2.k1, keys_front Vt.key hS2.k2 HLN.o.2.1, keys_front Rv.key hS2.k3 (HLN.o.2.2.trans HKM.o)⟩)
  have HV2 := Lh (small_of_keys (keys_append Vt.key hS2.k1 hS2.k2) (fun X hX => by
   rcases List.mem_append.1 hX with hX | hX
   · have := HFW.o.f3 X (List.mem_append.2 (.inl hX)); omega
   · rcases List.mem_append.1 hX with hX | hX
     · have := HFW.o.f3 X (List.mem_append.2 (.inr hX)); omega
     · rw [List.mem_singleton] at hX; rw [hX]; have := HVS.o; omega))
  have HR2 := Lh (small_of_keysR hS2.k3 (fun X hX => by
   rcases List.mem_append.1 hX with hX | hX
   · have := HFW.o.f4 X hX; omega
   · rw [List.mem_singleton] at hX; rw [hX]; have := HRS.o; omega))
  have HSM2 := Lh (show BoSm ⟨a2, B.n, c2, l2, some ⟨s2, o2, none⟩, B.m + 1, d2, g2, some ⟨s3, o3, none⟩, B.m + 1, f2, t2⟩ from ⟨by have := HFW.o.f1; simp only; omega, by have := HFW.o.f1; simp only; omega, HR2.o, HV2.o⟩)
  have HB2 := Lh (show BoIn w9 ⟨a2, B.n, c2, l2, some ⟨s2, o2, none⟩, B.m + 1, d2, g2, some ⟨s3, o3, none⟩, B.m + 1, f2, t2⟩ from hi2)
  have HBK2 := Lh (show BoIn w9 ⟨a2, B.n, c2, l2, some ⟨s2, o2, none⟩, B.m, d2, g2.take B.m, some ⟨s3, o3, none⟩, B.m, f2, t2.take B.m⟩ from ⟨hi2.h1, hi2.k1, hi2.h2.front, (fun h => by cases h), hi2.h3.front, (fun h => by cases h)⟩)
  have HUC2 := Lh hUC
  have HUI2 := Lh hUI
  have HTC2 := Lh (RCells.mk hTs hT0 hT1)
  have HTI2 := Lh hTI
  have hc2 : B.m + 1 ≤ d2 := hcp2.2.1
  have hc3 : B.m + 1 ≤ f2 := hcp2.2.2
  have hle2 : B.m ≤ d2 := by omega
  have hle3 : B.m ≤ f2 := by omega
  clear hi2 hS2 hcp2 hUL hUC hUI hTL hTs hT0 hT1 hTI hk2
  simp only [Bo.v]
  have hw2 : IntKind.i64.wrap ((B.m : Int) + 1 - 1) = (B.m : Int) := by rw [Int.add_sub_cancel]; exact IntWalk.i64_in _ (by have := HFW.o.f1; omega)
  have hw2' : IntKind.i64.wrap (B.m : Int) = (B.m : Int) := IntWalk.i64_in _ (by have := HFW.o.f1; omega)
  have hge2 : (0 : Int) ≤ (B.m : Int) := by omega
  have hng2 : ¬ ((B.m : Int) < 0) := by omega
  have hng2d : decide ((B.m : Int) < 0) = false := decide_eq_false (by omega)
  have hlt2 : (B.m : Int) < (B.m : Int) + 1 := by omega
  have hlr2 := F_r.o.lt
  go_wp2_with fail
  have F_d := Lh (Cl.at w9 [.slice a2 B.n c2, .slice (some ⟨s2, o2, none⟩) (B.m + 1) d2, .slice (some ⟨s3, o3, none⟩) (B.m + 1) f2] 53 w9.heap.size rfl)
  replace F_g := Lh (F_g.o.keep ((Below.refl _ _).alloc (Nat.le_refl _) (.cells #[.slice a2 B.n c2, .slice (some ⟨s2, o2, none⟩) (B.m + 1) d2, .slice (some ⟨s3, o3, none⟩) (B.m + 1) f2] 53)))
  replace F_b := Lh (F_b.o.keep ((Below.refl _ _).alloc (Nat.le_refl _) (.cells #[.slice a2 B.n c2, .slice (some ⟨s2, o2, none⟩) (B.m + 1) d2, .slice (some ⟨s3, o3, none⟩) (B.m + 1) f2] 53)))
  replace F_v := Lh (F_v.o.keep ((Below.refl _ _).alloc (Nat.le_refl _) (.cells #[.slice a2 B.n c2, .slice (some ⟨s2, o2, none⟩) (B.m + 1) d2, .slice (some ⟨s3, o3, none⟩) (B.m + 1) f2] 53)))
  replace F_r := Lh (F_r.o.keep ((Below.refl _ _).alloc (Nat.le_refl _) (.cells #[.slice a2 B.n c2, .slice (some ⟨s2, o2, none⟩) (B.m + 1) d2, .slice (some ⟨s3, o3, none⟩) (B.m + 1) f2] 53)))
  replace HB2 := Lh (HB2.o.keep ((Below.refl _ _).alloc (Nat.le_refl _) (.cells #[.slice a2 B.n c2, .slice (some ⟨s2, o2, none⟩) (B.m + 1) d2, .slice (some ⟨s3, o3, none⟩) (B.m + 1) f2] 53)))
  replace HBK2 := Lh (HBK2.o.keep ((Below.refl _ _).alloc (Nat.le_refl _) (.cells #[.slice a2 B.n c2, .slice (some ⟨s2, o2, none⟩) (B.m + 1) d2, .slice (some ⟨s3, o3, none⟩) (B.m + 1) f2] 53)))
  replace HUC2 := Lh (HUC2.o.keep ((Below.refl _ _).alloc (Nat.le_refl _) (.cells #[.slice a2 B.n c2, .slice (some ⟨s2, o2, none⟩) (B.m + 1) d2, .slice (some ⟨s3, o3, none⟩) (B.m + 1) f2] 53)))
  replace HUI2 := Lh (HUI2.o.keep ((Below.refl _ _).alloc (Nat.le_refl _) (.cells #[.slice a2 B.n c2, .slice (some ⟨s2, o2, none⟩) (B.m + 1) d2, .slice (some ⟨s3, o3, none⟩) (B.m + 1) f2] 53)))
  replace HTC2 := Lh (HTC2.o.keep ((Below.refl _ _).alloc (Nat.le_refl _) (.cells #[.slice a2 B.n c2, .slice (some ⟨s2, o2, none⟩) (B.m + 1) d2, .slice (some ⟨s3, o3, none⟩) (B.m + 1) f2] 53)))
  replace HTI2 := Lh (HTI2.o.keep ((Below.refl _ _).alloc (Nat.le_refl _) (.cells #[.slice a2 B.n c2, .slice (some ⟨s2, o2, none⟩) (B.m + 1) d2, .slice (some ⟨s3, o3, none⟩) (B.m + 1) f2] 53)))
  replace HBW := Lh (HBW.o.alloc HBW.o.size (.cells #[.slice a2 B.n c2, .slice (some ⟨s2, o2, none⟩) (B.m + 1) d2, .slice (some ⟨s3, o3, none⟩) (B.m + 1) f2] 53))
  obtain ⟨DB, hDB⟩ : ∃ x, x = w9.heap.size := ⟨_, rfl⟩
  obtain ⟨wb, hwa⟩ : ∃ x, x = w9.alloc (.cells #[.slice a2 B.n c2, .slice (some ⟨s2, o2, none⟩) (B.m + 1) d2, .slice (some ⟨s3, o3, none⟩) (B.m + 1) f2] 53) := ⟨_, rfl⟩
  rw [← hwa] at F_d F_g F_b F_v F_r HB2 HBK2 HUC2 HUI2 HTC2 HTI2 HBW ⊢
  rw [← hDB] at F_d ⊢
  clear hwa
  have hdb : w.heap.size + 1 + 1 + 1 < DB := by omega
  clear hDB
  replace F_g := Lh (F_g.o.keep (Below.refl _ _).drew)
  replace F_b := Lh (F_b.o.keep (Below.refl _ _).drew)
  replace F_v := Lh (F_v.o.keep (Below.refl _ _).drew)
  replace F_r := Lh (F_r.o.keep (Below.refl _ _).drew)
  replace HB2 := Lh (HB2.o.keep (Below.refl _ _).drew)
  replace HBK2 := Lh (HBK2.o.keep (Below.refl _ _).drew)
  replace HUC2 := Lh (HUC2.o.keep (Below.refl _ _).drew)
  replace HUI2 := Lh (HUI2.o.keep (Below.refl _ _).drew)
  replace HTC2 := Lh (HTC2.o.keep (Below.refl _ _).drew)
  replace HTI2 := Lh (HTI2.o.keep (Below.refl _ _).drew)
  replace F_d := Lh (F_d.o.keep (Below.refl _ _).drew)
  replace HBW := Lh HBW.o.drew
  have hS0 := F_d.o
  refine wp_region_stage 12 (fun w' => Cl w' DB [.slice a2 B.n c2, .slice (some ⟨s2, o2, none⟩) (B.m + 1) d2, .slice (some ⟨s3, o3, none⟩) (B.m + 1) f2]) (by kernel_rfl) ?_
  refine tkP (i := 0) (some 171) (.fieldAddr 53 (.tmp 23) 0) 0 (fun _ => hS0) ?_
  simp only [Act.put, sZ]
  refine tkL (i := 1) (some 172) (.load 50 (.tmp 171)) 50 [10, 12] (v := ?_) hS0 (fun w' hSw => ?_) ?_
  rotate_left
  · have y0 := hSw.c 0 _ rfl; have y1 := hSw.c 1 _ rfl; have y2 := hSw.c 2 _ rfl
    unfold bareOp; go_simp; try with_reducible rfl
  simp only [Act.put, sZ]
  refine tkP (i := 2) (some 173) (.fieldAddr 53 (.tmp 23) 1) 0 (fun _ => hS0) ?_
  simp only [Act.put, sZ]
  refine tkL (i := 3) (some 174) (.load 50 (.tmp 173)) 50 [5, 10, 12] (v := ?_) hS0 (fun w' hSw => ?_) ?_
  rotate_left
  · have y0 := hSw.c 0 _ rfl; have y1 := hSw.c 1 _ rfl; have y2 := hSw.c 2 _ rfl
    unfold bareOp; go_simp; try with_reducible rfl
  simp only [Act.put, sZ]
  refine tkP (i := 4) (some 175) (.move (.tmp 25)) 3 (fun _ => hS0) ?_
  simp only [Act.put, sZ]
  refine tkP (i := 5) (some 176) (.slice 50 (.tmp 174) none (some (.tmp 175)) none) 50 (fun _ => hS0) ?_
  simp only [Act.put, sZ]
  refine tkP (i := 6) (some 177) (.fieldAddr 53 (.tmp 23) 2) 0 (fun _ => hS0) ?_
  simp only [Act.put, sZ]
  refine tkL (i := 7) (some 178) (.load 51 (.tmp 177)) 51 [9, 10, 12] (v := ?_) hS0 (fun w' hSw => ?_) ?_
  rotate_left
  · have y0 := hSw.c 0 _ rfl; have y1 := hSw.c 1 _ rfl; have y2 := hSw.c 2 _ rfl
    unfold bareOp; go_simp; try with_reducible rfl
  simp only [Act.put, sZ]
  refine tkP (i := 8) (some 179) (.move (.tmp 25)) 3 (fun _ => hS0) ?_
  simp only [Act.put, sZ]
  refine tkP (i := 9) (some 180) (.slice 51 (.tmp 178) none (some (.tmp 179)) none) 51 (fun _ => hS0) ?_
  simp only [Act.put, sZ]
  refine tkP (i := 10) (some 181) (.build 53 #[(0, .tmp 172), (1, .tmp 176), (2, .tmp 180)]) 53 (fun _ => hS0) ?_
  simp only [Act.put, sZ]
  refine onl (i := 11) (some 26) (.alloc 53) 0 (fun K hK => ?_)
  unfold bareOp
  go_wp2_with fail
  have F_e := Lh (show Cl (wb.drew.alloc (.cells #[.slice none 0 0, .slice none 0 0, .slice none 0 0] 53)) wb.heap.size [.slice none 0 0, .slice none 0 0, .slice none 0 0] from Cl.at wb.drew [.slice none 0 0, .slice none 0 0, .slice none 0 0] 53 _ (by simp))
  have HOF_HB2 := Lh (show offBo wb.heap.size _ from HB2.o.freshO)
  have HOF_HBK2 := Lh (show offBo wb.heap.size _ from HBK2.o.freshO)
  have HZ_F_g := Lh (show w.heap.size < wb.heap.size from by have := F_g.o.lt; simpa using this)
  have HZ_F_b := Lh (show w.heap.size + 1 < wb.heap.size from by have := F_b.o.lt; simpa using this)
  have HZ_F_v := Lh (show w.heap.size + 1 + 1 < wb.heap.size from by have := F_v.o.lt; simpa using this)
  have HZ_F_r := Lh (show w.heap.size + 1 + 1 + 1 < wb.heap.size from by have := F_r.o.lt; simpa using this)
  have HZ_F_d := Lh (show DB < wb.heap.size from by have := F_d.o.lt; simpa using this)
  have HZ_HUC2 := Lh (show s2 < wb.heap.size from by have := HUC2.o.lt; simpa using this)
  have HZ_HTC2 := Lh (show s3 < wb.heap.size from by have := HTC2.o.lt; simpa using this)
  have HOV_HUI2 := Lh (show offB _ _ (some wb.heap.size) ∧ offB _ _ (some wb.heap.size) from ⟨HUI2.o.h1.fresh, HUI2.o.h2.fresh⟩)
  have HOV_HTI2 := Lh (show offB _ _ (some wb.heap.size) ∧ offB _ _ (some wb.heap.size) from ⟨HTI2.o.h1.fresh, HTI2.o.h2.fresh⟩)
  replace F_g := Lh (F_g.o.keep ((Below.refl _ _).alloc (Nat.le_refl _) (.cells #[.slice none 0 0, .slice none 0 0, .slice none 0 0] 53)))
  replace F_b := Lh (F_b.o.keep ((Below.refl _ _).alloc (Nat.le_refl _) (.cells #[.slice none 0 0, .slice none 0 0, .slice none 0 0] 53)))
  replace F_v := Lh (F_v.o.keep ((Below.refl _ _).alloc (Nat.le_refl _) (.cells #[.slice none 0 0, .slice none 0 0, .slice none 0 0] 53)))
  replace F_r := Lh (F_r.o.keep ((Below.refl _ _).alloc (Nat.le_refl _) (.cells #[.slice none 0 0, .slice none 0 0, .slice none 0 0] 53)))
  replace HB2 := Lh (HB2.o.keep ((Below.refl _ _).alloc (Nat.le_refl _) (.cells #[.slice none 0 0, .slice none 0 0, .slice none 0 0] 53)))
  replace HBK2 := Lh (HBK2.o.keep ((Below.refl _ _).alloc (Nat.le_refl _) (.cells #[.slice none 0 0, .slice none 0 0, .slice none 0 0] 53)))
  replace HUC2 := Lh (HUC2.o.keep ((Below.refl _ _).alloc (Nat.le_refl _) (.cells #[.slice none 0 0, .slice none 0 0, .slice none 0 0] 53)))
  replace HUI2 := Lh (HUI2.o.keep ((Below.refl _ _).alloc (Nat.le_refl _) (.cells #[.slice none 0 0, .slice none 0 0, .slice none 0 0] 53)))
  replace HTC2 := Lh (HTC2.o.keep ((Below.refl _ _).alloc (Nat.le_refl _) (.cells #[.slice none 0 0, .slice none 0 0, .slice none 0 0] 53)))
  replace HTI2 := Lh (HTI2.o.keep ((Below.refl _ _).alloc (Nat.le_refl _) (.cells #[.slice none 0 0, .slice none 0 0, .slice none 0 0] 53)))
  replace F_d := Lh (F_d.o.keep ((Below.refl _ _).alloc (Nat.le_refl _) (.cells #[.slice none 0 0, .slice none 0 0, .slice none 0 0] 53)))
  replace HBW := Lh (HBW.o.alloc HBW.o.size (.cells #[.slice none 0 0, .slice none 0 0, .slice none 0 0] 53))
  clear hS0
  have hS0 := F_d.o
  refine hK.o _ _ (fun _ => hS0) ?_
  clear hK K
  try simp only [Act.put, sZ]
  refine onl (i := 12) none (.store 53 (.tmp 26) (.tmp 181)) 0 (fun K hK => ?_)
  unfold bareOp
  refine wp_storeCl 53 (.tmp 26) (.tmp 181) wb.heap.size 0 [.slice none 0 0, .slice none 0 0, .slice none 0 0] [.slice a2 B.n c2, .slice (some ⟨s2, o2, none⟩) B.m d2, .slice (some ⟨s3, o3, none⟩) B.m f2] [.slice a2 B.n c2, .slice (some ⟨s2, o2, none⟩) B.m d2, .slice (some ⟨s3, o3, none⟩) B.m f2] rfl rfl rfl (by kernel_rfl) (by intro u hu; simp at hu; rcases hu with rfl | rfl | rfl <;> rfl) F_e.o (by simp) rfl ?_
  intro w5 hca hga hza
  replace F_e := Lh hca
  replace F_g := Lh (F_g.o.gro hga (by have := HZ_F_g.o; omega))
  replace F_b := Lh (F_b.o.gro hga (by have := HZ_F_b.o; omega))
  replace F_v := Lh (F_v.o.gro hga (by have := HZ_F_v.o; omega))
  replace F_r := Lh (F_r.o.gro hga (by have := HZ_F_r.o; omega))
  replace HB2 := Lh (HB2.o.grownO hga.grown HOF_HB2.o)
  replace HBK2 := Lh (HBK2.o.grownO hga.grown HOF_HBK2.o)
  replace HUC2 := Lh (HUC2.o.gro hga (by have := HZ_HUC2.o; omega))
  replace HUI2 := Lh (HUI2.o.grownO hga.grown HOV_HUI2.o.1 HOV_HUI2.o.2)
  replace HTC2 := Lh (HTC2.o.gro hga (by have := HZ_HTC2.o; omega))
  replace HTI2 := Lh (HTI2.o.grownOR hga.grown HOV_HTI2.o.1 HOV_HTI2.o.2)
  replace F_d := Lh (F_d.o.gro hga (by have := HZ_F_d.o; omega))
  replace HBW := Lh (HBW.o.trans (hga.blw (n := w.heap.size) (by have := HZ_F_g.o; omega) HBW.o.size))
  clear hca hga hza HOF_HB2 HOF_HBK2 HZ_F_g HZ_F_b HZ_F_v HZ_F_r HZ_HUC2 HZ_HTC2 HZ_F_d HOV_HUI2 HOV_HTI2
  refine hK.o _ _ lt8 ?_
  clear hK K
  try simp only [Act.put, sZ]
  refine wpAnyB_done (by kernel_rfl) ?_ _
  have q_g_0 := F_g.o.c 0 _ rfl
  have q_g_1 := F_g.o.c 1 _ rfl
  have q_g_2 := F_g.o.c 2 _ rfl
  have q_d_0 := F_d.o.c 0 _ rfl
  have q_d_1 := F_d.o.c 1 _ rfl
  have q_d_2 := F_d.o.c 2 _ rfl
  have q_v_0 := F_v.o.c 0 _ rfl
  have q_v_1 := F_v.o.c 1 _ rfl
  have q_v_2 := F_v.o.c 2 _ rfl
  have q_v_3 := F_v.o.c 3 _ rfl
  have q_v_4 := F_v.o.c 4 _ rfl
  have q_v_5 := F_v.o.c 5 _ rfl
  have q_v_6 := F_v.o.c 6 _ rfl
  have q_v_7 := F_v.o.c 7 _ rfl
  have q_v_8 := F_v.o.c 8 _ rfl
  have q_v_9 := F_v.o.c 9 _ rfl
  have q_v_10 := F_v.o.c 10 _ rfl
  go_wp2_with fail
  clear q_g_0 q_g_1 q_g_2 q_d_0 q_d_1 q_d_2 q_v_0 q_v_1 q_v_2 q_v_3 q_v_4 q_v_5 q_v_6 q_v_7 q_v_8 q_v_9 q_v_10
  refine (once_cast_seen (n := n) (B := ⟨a2, B.n, c2, l2, some ⟨s2, o2, none⟩, B.m + 1, d2, g2, some ⟨s3, o3, none⟩, B.m + 1, f2, t2⟩) (V := V) (one := one) _ (HT.o.below HBW.o) hP hQ hG hy HB2.o HSM2.o (HV.o.keep HBW.o) (by have := HVS.o; omega) (by have := HVS.o; omega) HA.o.chk HBO2.o HA.o.god HSN2.o).mono ?_
  rintro e w6 ⟨rfl, hb6⟩
  replace F_g := Lh (F_g.o.keep hb6)
  replace F_b := Lh (F_b.o.keep hb6)
  replace F_v := Lh (F_v.o.keep hb6)
  replace F_r := Lh (F_r.o.keep hb6)
  replace HB2 := Lh (HB2.o.keep hb6)
  replace HBK2 := Lh (HBK2.o.keep hb6)
  replace HUC2 := Lh (HUC2.o.keep hb6)
  replace HUI2 := Lh (HUI2.o.keep hb6)
  replace HTC2 := Lh (HTC2.o.keep hb6)
  replace HTI2 := Lh (HTI2.o.keep hb6)
  replace F_d := Lh (F_d.o.keep hb6)
  replace F_e := Lh (F_e.o.keep hb6)
  replace HBW := Lh (HBW.o.trans (hb6.mono HBW.o.size))
  clear hb6
  replace F_g := Lh (F_g.o.keep ((Below.refl _ _).alloc (Nat.le_refl _) (.cells #[.slice none 0 0, .slice none 0 0, .slice none 0 0] 53)))
  replace F_b := Lh (F_b.o.keep ((Below.refl _ _).alloc (Nat.le_refl _) (.cells #[.slice none 0 0, .slice none 0 0, .slice none 0 0] 53)))
  replace F_v := Lh (F_v.o.keep ((Below.refl _ _).alloc (Nat.le_refl _) (.cells #[.slice none 0 0, .slice none 0 0, .slice none 0 0] 53)))
  replace F_r := Lh (F_r.o.keep ((Below.refl _ _).alloc (Nat.le_refl _) (.cells #[.slice none 0 0, .slice none 0 0, .slice none 0 0] 53)))
  replace HB2 := Lh (HB2.o.keep ((Below.refl _ _).alloc (Nat.le_refl _) (.cells #[.slice none 0 0, .slice none 0 0, .slice none 0 0] 53)))
  replace HBK2 := Lh (HBK2.o.keep ((Below.refl _ _).alloc (Nat.le_refl _) (.cells #[.slice none 0 0, .slice none 0 0, .slice none 0 0] 53)))
  replace HUC2 := Lh (HUC2.o.keep ((Below.refl _ _).alloc (Nat.le_refl _) (.cells #[.slice none 0 0, .slice none 0 0, .slice none 0 0] 53)))
  replace HUI2 := Lh (HUI2.o.keep ((Below.refl _ _).alloc (Nat.le_refl _) (.cells #[.slice none 0 0, .slice none 0 0, .slice none 0 0] 53)))
  replace HTC2 := Lh (HTC2.o.keep ((Below.refl _ _).alloc (Nat.le_refl _) (.cells #[.slice none 0 0, .slice none 0 0, .slice none 0 0] 53)))
  replace HTI2 := Lh (HTI2.o.keep ((Below.refl _ _).alloc (Nat.le_refl _) (.cells #[.slice none 0 0, .slice none 0 0, .slice none 0 0] 53)))
  replace F_d := Lh (F_d.o.keep ((Below.refl _ _).alloc (Nat.le_refl _) (.cells #[.slice none 0 0, .slice none 0 0, .slice none 0 0] 53)))
  replace F_e := Lh (F_e.o.keep ((Below.refl _ _).alloc (Nat.le_refl _) (.cells #[.slice none 0 0, .slice none 0 0, .slice none 0 0] 53)))
  replace HBW := Lh (HBW.o.alloc HBW.o.size (.cells #[.slice none 0 0, .slice none 0 0, .slice none 0 0] 53))
  have q_g_0 := F_g.o.c 0 _ rfl
  have q_g_1 := F_g.o.c 1 _ rfl
  have q_g_2 := F_g.o.c 2 _ rfl
  have q_d_0 := F_d.o.c 0 _ rfl
  have q_d_1 := F_d.o.c 1 _ rfl
  have q_d_2 := F_d.o.c 2 _ rfl
  have q_v_0 := F_v.o.c 0 _ rfl
  have q_v_1 := F_v.o.c 1 _ rfl
  have q_v_2 := F_v.o.c 2 _ rfl
  have q_v_3 := F_v.o.c 3 _ rfl
  have q_v_4 := F_v.o.c 4 _ rfl
  have q_v_5 := F_v.o.c 5 _ rfl
  have q_v_6 := F_v.o.c 6 _ rfl
  have q_v_7 := F_v.o.c 7 _ rfl
  have q_v_8 := F_v.o.c 8 _ rfl
  have q_v_9 := F_v.o.c 9 _ rfl
  have q_v_10 := F_v.o.c 10 _ rfl
  have q_r_0 := F_r.o.c 0 _ rfl
  have q_r_1 := F_r.o.c 1 _ rfl
  go_wp2_with fail
  clear q_g_0 q_g_1 q_g_2 q_d_0 q_d_1 q_d_2 q_v_0 q_v_1 q_v_2 q_v_3 q_v_4 q_v_5 q_v_6 q_v_7 q_v_8 q_v_9 q_v_10 q_r_0 q_r_1
  refine (once_chal_seen (R := R) (n := n) (B := ⟨a2, B.n, c2, l2, some ⟨s2, o2, none⟩, B.m + 1, d2, g2, some ⟨s3, o3, none⟩, B.m + 1, f2, t2⟩) (V := V) (one := one) _ (HT.o.below HBW.o) hP hQ hG hy HB2.o HSM2.o (HV.o.keep HBW.o) (by have := HVS.o; omega) (by have := HVS.o; omega) (HR.o.keep HBW.o) (by have := HRS.o; omega) (by have := HRS.o; omega) HA.o.chk HBO2.o HA.o.god HSN2.o).mono ?_
  rintro e w8 ⟨rfl, hb8⟩
  replace F_g := Lh (F_g.o.keep hb8)
  replace F_b := Lh (F_b.o.keep hb8)
  replace F_v := Lh (F_v.o.keep hb8)
  replace F_r := Lh (F_r.o.keep hb8)
  replace HB2 := Lh (HB2.o.keep hb8)
  replace HBK2 := Lh (HBK2.o.keep hb8)
  replace HUC2 := Lh (HUC2.o.keep hb8)
  replace HUI2 := Lh (HUI2.o.keep hb8)
  replace HTC2 := Lh (HTC2.o.keep hb8)
  replace HTI2 := Lh (HTI2.o.keep hb8)
  replace F_d := Lh (F_d.o.keep hb8)
  replace F_e := Lh (F_e.o.keep hb8)
  replace HBW := Lh (HBW.o.trans (hb8.mono HBW.o.size))
  clear hb8
  replace F_g := Lh (F_g.o.keep ((Below.refl _ _).alloc (Nat.le_refl _) (.cells #[.slice none 0 0, .slice none 0 0, .slice none 0 0] 53)))
  replace F_b := Lh (F_b.o.keep ((Below.refl _ _).alloc (Nat.le_refl _) (.cells #[.slice none 0 0, .slice none 0 0, .slice none 0 0] 53)))
  replace F_v := Lh (F_v.o.keep ((Below.refl _ _).alloc (Nat.le_refl _) (.cells #[.slice none 0 0, .slice none 0 0, .slice none 0 0] 53)))
  replace F_r := Lh (F_r.o.keep ((Below.refl _ _).alloc (Nat.le_refl _) (.cells #[.slice none 0 0, .slice none 0 0, .slice none 0 0] 53)))
  replace HB2 := Lh (HB2.o.keep ((Below.refl _ _).alloc (Nat.le_refl _) (.cells #[.slice none 0 0, .slice none 0 0, .slice none 0 0] 53)))
  replace HBK2 := Lh (HBK2.o.keep ((Below.refl _ _).alloc (Nat.le_refl _) (.cells #[.slice none 0 0, .slice none 0 0, .slice none 0 0] 53)))
  replace HUC2 := Lh (HUC2.o.keep ((Below.refl _ _).alloc (Nat.le_refl _) (.cells #[.slice none 0 0, .slice none 0 0, .slice none 0 0] 53)))
  replace HUI2 := Lh (HUI2.o.keep ((Below.refl _ _).alloc (Nat.le_refl _) (.cells #[.slice none 0 0, .slice none 0 0, .slice none 0 0] 53)))
  replace HTC2 := Lh (HTC2.o.keep ((Below.refl _ _).alloc (Nat.le_refl _) (.cells #[.slice none 0 0, .slice none 0 0, .slice none 0 0] 53)))
  replace HTI2 := Lh (HTI2.o.keep ((Below.refl _ _).alloc (Nat.le_refl _) (.cells #[.slice none 0 0, .slice none 0 0, .slice none 0 0] 53)))
  replace F_d := Lh (F_d.o.keep ((Below.refl _ _).alloc (Nat.le_refl _) (.cells #[.slice none 0 0, .slice none 0 0, .slice none 0 0] 53)))
  replace F_e := Lh (F_e.o.keep ((Below.refl _ _).alloc (Nat.le_refl _) (.cells #[.slice none 0 0, .slice none 0 0, .slice none 0 0] 53)))
  replace HBW := Lh (HBW.o.alloc HBW.o.size (.cells #[.slice none 0 0, .slice none 0 0, .slice none 0 0] 53))
  go_wp2_with fail
  have cR : Tryd.prog.cellsOf 57 = 2 := by kernel_rfl
  replace F_g := Lh (F_g.o.keep (Below.refl _ _).drew)
  replace F_b := Lh (F_b.o.keep (Below.refl _ _).drew)
  replace F_v := Lh (F_v.o.keep (Below.refl _ _).drew)
  replace F_r := Lh (F_r.o.keep (Below.refl _ _).drew)
  replace HB2 := Lh (HB2.o.keep (Below.refl _ _).drew)
  replace HBK2 := Lh (HBK2.o.keep (Below.refl _ _).drew)
  replace HUC2 := Lh (HUC2.o.keep (Below.refl _ _).drew)
  replace HUI2 := Lh (HUI2.o.keep (Below.refl _ _).drew)
  replace HTC2 := Lh (HTC2.o.keep (Below.refl _ _).drew)
  replace HTI2 := Lh (HTI2.o.keep (Below.refl _ _).drew)
  replace F_d := Lh (F_d.o.keep (Below.refl _ _).drew)
  replace F_e := Lh (F_e.o.keep (Below.refl _ _).drew)
  replace HBW := Lh HBW.o.drew
  have hS0 := And.intro F_g.o (And.intro F_d.o (And.intro F_e.o (And.intro F_b.o (And.intro F_v.o (And.intro F_r.o (And.intro HUC2.o HTC2.o))))))
  refine wp_region_stage 45 (fun w' => Cl w' w.heap.size [.int .u64 P, .int .u64 Q, .int .u64 G] ∧ Cl w' DB [.slice a2 B.n c2, .slice (some ⟨s2, o2, none⟩) (B.m + 1) d2, .slice (some ⟨s3, o3, none⟩) (B.m + 1) f2] ∧ Cl w' wb.heap.size [.slice a2 B.n c2, .slice (some ⟨s2, o2, none⟩) B.m d2, .slice (some ⟨s3, o3, none⟩) B.m f2] ∧ Cl w' (w.heap.size + 1) [.slice B.a B.n B.c, .slice B.b B.m B.d, .slice B.e B.k B.f] ∧ Cl w' (w.heap.size + 1 + 1) V.cl ∧ Cl w' (w.heap.size + 1 + 1 + 1) [.slice R.a R.n R.c, .slice R.b R.m R.d] ∧ VCells w' s2 (o2 + B.m * 11) U2 ∧ RCells w' s3 (o3 + B.m * 2) T2) (by kernel_rfl) ?_
  refine tkP (i := 0) (some 203) (.move (.tmp 15)) 4 (fun _ => hS0) ?_
  simp only [Act.put, sZ]
  refine tkP (i := 1) (some 204) (.move (.tmp 203)) 4 (fun _ => hS0) ?_
  simp only [Act.put, sZ]
  refine tkPG (i := 2) (some 205) (.move (.tmp 17)) 32 (some (1, true)) (fun _ => hS0) ?_
  simp only [Act.put, sZ]
  refine tkPG (i := 3) (some 206) (.binOp .eql 32 (.tmp 205) (.const (.int .i64 0)) 32) 4 (some (1, true)) (fun _ => hS0) ?_
  simp only [Act.put, sZ]
  refine tkP (i := 4) (some 207) (.pick (.tmp 204) (.tmp 206) (.const (.bool false))) 4 (fun _ => hS0) ?_
  simp only [Act.put, sZ]
  refine tkP (i := 5) (some 208) (.move (.tmp 207)) 4 (fun _ => hS0) ?_
  simp only [Act.put, sZ]
  refine tkLG (i := 6) (some 209) (.load 49 (.tmp 7)) 49 (some (5, true)) [11, 12, 13, 14, 15, 16, 17, 18, 19, 20, 21, 22, 23, 24, 25, 26, 27, 28, 29, 30, 31, 32, 33, 34, 35, 36, 37, 38, 39, 40, 41, 42, 43, 44, 45] (v := ?_) hS0 (fun w' hSw => ?_) ?_
  rotate_left
  · obtain ⟨t1, t2, t3, t4, t5, t6, t7, t8⟩ := hSw; have g0 := t1.c 0 _ rfl; have c0_ := t2.c 0 _ rfl; have k0 := t3.c 0 _ rfl; have b0_ := t4.c 0 _ rfl; have g1 := t1.c 1 _ rfl; have c1_ := t2.c 1 _ rfl; have k1 := t3.c 1 _ rfl; have b1_ := t4.c 1 _ rfl; have g2 := t1.c 2 _ rfl; have c2_ := t2.c 2 _ rfl; have k2 := t3.c 2 _ rfl; have b2_ := t4.c 2 _ rfl; obtain ⟨⟨q0, q1, q2, q3, q4, q5, q6, q7, q8, q9, q10⟩, -⟩ := t5.k11; have r0 := t6.c 0 _ rfl; have r1 := t6.c 1 _ rfl; obtain ⟨-, z0, z1, z2, z3, z4, z5, z6, z7, z8, z9, z10⟩ := t7; obtain ⟨-, y0, y1⟩ := t8
    unfold bareOp; go_simp; try with_reducible rfl
  simp only [Act.put, sZ]
  refine tkPG (i := 7) (some 210) (.move (.tmp 1)) 24 (some (5, true)) (fun _ => hS0) ?_
  simp only [Act.put, sZ]
  refine tkPG (i := 8) (some 211) (.move (.tmp 2)) 3 (some (5, true)) (fun _ => hS0) ?_
  simp only [Act.put, sZ]
  refine tkPG (i := 9) (some 212) (.move (.tmp 3)) 4 (some (5, true)) (fun _ => hS0) ?_
  simp only [Act.put, sZ]
  refine tkLG (i := 10) (some 213) (.load 53 (.tmp 23)) 53 (some (5, true)) [11, 12, 13, 14, 15, 16, 17, 18, 19, 20, 21, 22, 23, 24, 25, 26, 27, 28, 29, 30, 31, 32, 33, 34, 35, 36, 37, 38, 39, 40, 41, 42, 43, 44, 45] (v := ?_) hS0 (fun w' hSw => ?_) ?_
  rotate_left
  · obtain ⟨t1, t2, t3, t4, t5, t6, t7, t8⟩ := hSw; have g0 := t1.c 0 _ rfl; have c0_ := t2.c 0 _ rfl; have k0 := t3.c 0 _ rfl; have b0_ := t4.c 0 _ rfl; have g1 := t1.c 1 _ rfl; have c1_ := t2.c 1 _ rfl; have k1 := t3.c 1 _ rfl; have b1_ := t4.c 1 _ rfl; have g2 := t1.c 2 _ rfl; have c2_ := t2.c 2 _ rfl; have k2 := t3.c 2 _ rfl; have b2_ := t4.c 2 _ rfl; obtain ⟨⟨q0, q1, q2, q3, q4, q5, q6, q7, q8, q9, q10⟩, -⟩ := t5.k11; have r0 := t6.c 0 _ rfl; have r1 := t6.c 1 _ rfl; obtain ⟨-, z0, z1, z2, z3, z4, z5, z6, z7, z8, z9, z10⟩ := t7; obtain ⟨-, y0, y1⟩ := t8
    unfold bareOp; go_simp; try with_reducible rfl
  simp only [Act.put, sZ]
  refine wpAnyB_onlyG (i := 11) (some 214) (.call { callee := .value (.func 21), args := #[.tmp 209, .tmp 210, .tmp 211, .tmp 212, .tmp 213], argTypes := #[49, 24, 3, 4, 53] }) 32 (some (5, true)) ⟨_, rfl, rfl, rfl, rfl, rfl⟩ (by kernel_rfl) rfl (fun K hK => ?_)
  unfold bareOp
  refine OpW.out (wp_of_enter (run_call _ _ _ _ 21 Tryd.func21 (vs := #[.agg #[.int .u64 P, .int .u64 Q, .int .u64 G], .int .u64 y, .int .i64 n, .bool one, .agg #[.slice a2 B.n c2, .slice (some ⟨s2, o2, none⟩) (B.m + 1) d2, .slice (some ⟨s3, o3, none⟩) (B.m + 1) f2]]) (by simp only [List.map_toArray, List.map_cons, List.map_nil]; rfl) rfl (by kernel_rfl) (by kernel_rfl)) (once_valid (n := n) (one := one) (B := ⟨a2, B.n, c2, l2, some ⟨s2, o2, none⟩, B.m + 1, d2, g2, some ⟨s3, o3, none⟩, B.m + 1, f2, t2⟩) _ (HT.o.below HBW.o) hP hQ hG hy HB2.o HSM2.o HA.o.chk HBO2.o) ?_)
  rintro e w7 ⟨rfl, hb7⟩
  refine ⟨_, rfl, ?_⟩
  replace F_g := Lh (F_g.o.keep hb7)
  replace F_b := Lh (F_b.o.keep hb7)
  replace F_v := Lh (F_v.o.keep hb7)
  replace F_r := Lh (F_r.o.keep hb7)
  replace HB2 := Lh (HB2.o.keep hb7)
  replace HBK2 := Lh (HBK2.o.keep hb7)
  replace HUC2 := Lh (HUC2.o.keep hb7)
  replace HUI2 := Lh (HUI2.o.keep hb7)
  replace HTC2 := Lh (HTC2.o.keep hb7)
  replace HTI2 := Lh (HTI2.o.keep hb7)
  replace F_d := Lh (F_d.o.keep hb7)
  replace F_e := Lh (F_e.o.keep hb7)
  replace HBW := Lh (HBW.o.trans (hb7.mono HBW.o.size))
  clear hb7 hS0
  have hS0 := And.intro F_g.o (And.intro F_d.o (And.intro F_e.o (And.intro F_b.o (And.intro F_v.o (And.intro F_r.o (And.intro HUC2.o HTC2.o))))))
  refine hK.o _ _ (fun _ => hS0) ?_
  clear hK K
  try simp only [Act.put, sZ]
  refine tkPG (i := 12) (some 215) (.binOp .eql 32 (.tmp 214) (.const (.int .i64 0)) 32) 4 (some (5, true)) (fun _ => hS0) ?_
  simp only [Act.put, sZ]
  refine tkP (i := 13) (some 216) (.pick (.tmp 208) (.tmp 215) (.const (.bool false))) 4 (fun _ => hS0) ?_
  simp only [Act.put, sZ]
  refine tkP (i := 14) (some 217) (.move (.tmp 216)) 4 (fun _ => hS0) ?_
  simp only [Act.put, sZ]
  refine tkPG (i := 15) (some 218) (.move (.tmp 28)) 32 (some (14, true)) (fun _ => hS0) ?_
  simp only [Act.put, sZ]
  refine tkPG (i := 16) (some 219) (.binOp .eql 32 (.tmp 218) (.const (.int .i64 361)) 32) 4 (some (14, true)) (fun _ => hS0) ?_
  simp only [Act.put, sZ]
  refine tkP (i := 17) (some 220) (.pick (.tmp 217) (.tmp 219) (.const (.bool false))) 4 (fun _ => hS0) ?_
  simp only [Act.put, sZ]
  refine tkP (i := 18) (some 221) (.move (.tmp 220)) 4 (fun _ => hS0) ?_
  simp only [Act.put, sZ]
  refine tkPG (i := 19) (some 222) (.move (.tmp 30)) 32 (some (18, true)) (fun _ => hS0) ?_
  simp only [Act.put, sZ]
  refine tkPG (i := 20) (some 223) (.binOp .eql 32 (.tmp 222) (.const (.int .i64 361)) 32) 4 (some (18, true)) (fun _ => hS0) ?_
  simp only [Act.put, sZ]
  refine tkP (i := 21) (some 224) (.pick (.tmp 221) (.tmp 223) (.const (.bool false))) 4 (fun _ => hS0) ?_
  simp only [Act.put, sZ]
  refine tkP (i := 22) (some 225) (.move (.tmp 224)) 4 (fun _ => hS0) ?_
  simp only [Act.put, sZ]
  refine tkLG (i := 23) (some 226) (.load 53 (.tmp 26)) 53 (some (22, true)) [25, 26, 27, 28, 29, 30, 31, 32, 33, 34, 35, 36, 37, 38, 39, 40, 41, 42, 43, 44, 45] (v := ?_) hS0 (fun w' hSw => ?_) ?_
  rotate_left
  · obtain ⟨t1, t2, t3, t4, t5, t6, t7, t8⟩ := hSw; have g0 := t1.c 0 _ rfl; have c0_ := t2.c 0 _ rfl; have k0 := t3.c 0 _ rfl; have b0_ := t4.c 0 _ rfl; have g1 := t1.c 1 _ rfl; have c1_ := t2.c 1 _ rfl; have k1 := t3.c 1 _ rfl; have b1_ := t4.c 1 _ rfl; have g2 := t1.c 2 _ rfl; have c2_ := t2.c 2 _ rfl; have k2 := t3.c 2 _ rfl; have b2_ := t4.c 2 _ rfl; obtain ⟨⟨q0, q1, q2, q3, q4, q5, q6, q7, q8, q9, q10⟩, -⟩ := t5.k11; have r0 := t6.c 0 _ rfl; have r1 := t6.c 1 _ rfl; obtain ⟨-, z0, z1, z2, z3, z4, z5, z6, z7, z8, z9, z10⟩ := t7; obtain ⟨-, y0, y1⟩ := t8
    unfold bareOp; go_simp; try with_reducible rfl
  simp only [Act.put, sZ]
  refine tkLG (i := 24) (some 227) (.load 53 (.tmp 11)) 53 (some (22, true)) [25, 26, 27, 28, 29, 30, 31, 32, 33, 34, 35, 36, 37, 38, 39, 40, 41, 42, 43, 44, 45] (v := ?_) hS0 (fun w' hSw => ?_) ?_
  rotate_left
  · obtain ⟨t1, t2, t3, t4, t5, t6, t7, t8⟩ := hSw; have g0 := t1.c 0 _ rfl; have c0_ := t2.c 0 _ rfl; have k0 := t3.c 0 _ rfl; have b0_ := t4.c 0 _ rfl; have g1 := t1.c 1 _ rfl; have c1_ := t2.c 1 _ rfl; have k1 := t3.c 1 _ rfl; have b1_ := t4.c 1 _ rfl; have g2 := t1.c 2 _ rfl; have c2_ := t2.c 2 _ rfl; have k2 := t3.c 2 _ rfl; have b2_ := t4.c 2 _ rfl; obtain ⟨⟨q0, q1, q2, q3, q4, q5, q6, q7, q8, q9, q10⟩, -⟩ := t5.k11; have r0 := t6.c 0 _ rfl; have r1 := t6.c 1 _ rfl; obtain ⟨-, z0, z1, z2, z3, z4, z5, z6, z7, z8, z9, z10⟩ := t7; obtain ⟨-, y0, y1⟩ := t8
    unfold bareOp; go_simp; try with_reducible rfl
  simp only [Act.put, sZ]
  refine wpAnyB_onlyG (i := 25) (some 228) (.call { callee := .value (.func 22), args := #[.tmp 226, .tmp 227], argTypes := #[53, 53] }) 4 (some (22, true)) ⟨_, rfl, rfl, rfl, rfl, rfl⟩ (by kernel_rfl) rfl (fun K hK => ?_)
  unfold bareOp
  refine OpW.out (wp_of_enter (run_call _ _ _ _ 22 Tryd.func22 (vs := #[.agg #[.slice a2 B.n c2, .slice (some ⟨s2, o2, none⟩) B.m d2, .slice (some ⟨s3, o3, none⟩) B.m f2], .agg #[.slice B.a B.n B.c, .slice B.b B.m B.d, .slice B.e B.k B.f]]) (by simp only [List.map_toArray, List.map_cons, List.map_nil]; rfl) rfl (by kernel_rfl) (by kernel_rfl)) (rSame36_any (B := B) (C := ⟨a2, B.n, c2, l2, some ⟨s2, o2, none⟩, B.m, d2, g2.take B.m, some ⟨s3, o3, none⟩, B.m, f2, t2.take B.m⟩) _ (HB.o.keep HBW.o) HBK2.o HSB2.o (by omega) (by omega) hbk (fun X hX => HV2.o X ((List.mem_append.1 hX).elim (fun h => List.mem_append.2 (.inl h)) (fun h => List.mem_append.2 (.inr (List.mem_of_mem_take h))))) (fun X hX => HR2.o X (List.mem_of_mem_take hX))) ?_)
  rintro e w7 ⟨rfl, hb7⟩
  refine ⟨_, rfl, ?_⟩
  replace F_g := Lh (F_g.o.keep hb7)
  replace F_b := Lh (F_b.o.keep hb7)
  replace F_v := Lh (F_v.o.keep hb7)
  replace F_r := Lh (F_r.o.keep hb7)
  replace HB2 := Lh (HB2.o.keep hb7)
  replace HBK2 := Lh (HBK2.o.keep hb7)
  replace HUC2 := Lh (HUC2.o.keep hb7)
  replace HUI2 := Lh (HUI2.o.keep hb7)
  replace HTC2 := Lh (HTC2.o.keep hb7)
  replace HTI2 := Lh (HTI2.o.keep hb7)
  replace F_d := Lh (F_d.o.keep hb7)
  replace F_e := Lh (F_e.o.keep hb7)
  replace HBW := Lh (HBW.o.trans (hb7.mono HBW.o.size))
  clear hb7 hS0
  have hS0 := And.intro F_g.o (And.intro F_d.o (And.intro F_e.o (And.intro F_b.o (And.intro F_v.o (And.intro F_r.o (And.intro HUC2.o HTC2.o))))))
  refine hK.o _ _ (fun _ => hS0) ?_
  clear hK K
  try simp only [Act.put, sZ]
  refine tkP (i := 26) (some 229) (.pick (.tmp 225) (.tmp 228) (.const (.bool false))) 4 (fun _ => hS0) ?_
  simp only [Act.put, sZ]
  refine tkP (i := 27) (some 230) (.move (.tmp 229)) 4 (fun _ => hS0) ?_
  simp only [Act.put, sZ]
  refine tkPG (i := 28) (some 231) (.fieldAddr 53 (.tmp 23) 1) 0 (some (27, true)) (fun _ => hS0) ?_
  simp only [Act.put, sZ]
  refine tkLG (i := 29) (some 232) (.load 50 (.tmp 231)) 50 (some (27, true)) [31, 32, 34, 35, 36, 37, 38, 39, 40, 41, 42, 43, 44, 45] (v := ?_) hS0 (fun w' hSw => ?_) ?_
  rotate_left
  · obtain ⟨t1, t2, t3, t4, t5, t6, t7, t8⟩ := hSw; have g0 := t1.c 0 _ rfl; have c0_ := t2.c 0 _ rfl; have k0 := t3.c 0 _ rfl; have b0_ := t4.c 0 _ rfl; have g1 := t1.c 1 _ rfl; have c1_ := t2.c 1 _ rfl; have k1 := t3.c 1 _ rfl; have b1_ := t4.c 1 _ rfl; have g2 := t1.c 2 _ rfl; have c2_ := t2.c 2 _ rfl; have k2 := t3.c 2 _ rfl; have b2_ := t4.c 2 _ rfl; obtain ⟨⟨q0, q1, q2, q3, q4, q5, q6, q7, q8, q9, q10⟩, -⟩ := t5.k11; have r0 := t6.c 0 _ rfl; have r1 := t6.c 1 _ rfl; obtain ⟨-, z0, z1, z2, z3, z4, z5, z6, z7, z8, z9, z10⟩ := t7; obtain ⟨-, y0, y1⟩ := t8
    unfold bareOp; go_simp; try with_reducible rfl
  simp only [Act.put, sZ]
  refine tkPG (i := 30) (some 233) (.move (.tmp 25)) 3 (some (27, true)) (fun _ => hS0) ?_
  simp only [Act.put, sZ]
  refine tkPG (i := 31) (some 234) (.indexAddr 50 (.tmp 232) (.tmp 233)) 0 (some (27, true)) (fun _ => hS0) ?_
  simp only [Act.put, sZ]
  refine tkLG (i := 32) (some 235) (.load 29 (.tmp 234)) 29 (some (27, true)) [34, 35, 36, 37, 38, 39, 40, 41, 42, 43, 44, 45] (v := ?_) hS0 (fun w' hSw => ?_) ?_
  rotate_left
  · obtain ⟨t1, t2, t3, t4, t5, t6, t7, t8⟩ := hSw; have g0 := t1.c 0 _ rfl; have c0_ := t2.c 0 _ rfl; have k0 := t3.c 0 _ rfl; have b0_ := t4.c 0 _ rfl; have g1 := t1.c 1 _ rfl; have c1_ := t2.c 1 _ rfl; have k1 := t3.c 1 _ rfl; have b1_ := t4.c 1 _ rfl; have g2 := t1.c 2 _ rfl; have c2_ := t2.c 2 _ rfl; have k2 := t3.c 2 _ rfl; have b2_ := t4.c 2 _ rfl; obtain ⟨⟨q0, q1, q2, q3, q4, q5, q6, q7, q8, q9, q10⟩, -⟩ := t5.k11; have r0 := t6.c 0 _ rfl; have r1 := t6.c 1 _ rfl; obtain ⟨-, z0, z1, z2, z3, z4, z5, z6, z7, z8, z9, z10⟩ := t7; obtain ⟨-, y0, y1⟩ := t8
    unfold bareOp; go_simp; try with_reducible rfl
  simp only [Act.put, sZ]
  refine tkLG (i := 33) (some 236) (.load 29 (.tmp 12)) 29 (some (27, true)) [34, 35, 36, 37, 38, 39, 40, 41, 42, 43, 44, 45] (v := ?_) hS0 (fun w' hSw => ?_) ?_
  rotate_left
  · obtain ⟨t1, t2, t3, t4, t5, t6, t7, t8⟩ := hSw; have g0 := t1.c 0 _ rfl; have c0_ := t2.c 0 _ rfl; have k0 := t3.c 0 _ rfl; have b0_ := t4.c 0 _ rfl; have g1 := t1.c 1 _ rfl; have c1_ := t2.c 1 _ rfl; have k1 := t3.c 1 _ rfl; have b1_ := t4.c 1 _ rfl; have g2 := t1.c 2 _ rfl; have c2_ := t2.c 2 _ rfl; have k2 := t3.c 2 _ rfl; have b2_ := t4.c 2 _ rfl; obtain ⟨⟨q0, q1, q2, q3, q4, q5, q6, q7, q8, q9, q10⟩, -⟩ := t5.k11; have r0 := t6.c 0 _ rfl; have r1 := t6.c 1 _ rfl; obtain ⟨-, z0, z1, z2, z3, z4, z5, z6, z7, z8, z9, z10⟩ := t7; obtain ⟨-, y0, y1⟩ := t8
    unfold bareOp; go_simp; try with_reducible rfl
  simp only [Act.put, sZ]
  refine wpAnyB_onlyG (i := 34) (some 237) (.call { callee := .value (.func 16), args := #[.tmp 235, .tmp 236], argTypes := #[29, 29] }) 4 (some (27, true)) ⟨_, rfl, rfl, rfl, rfl, rfl⟩ (by kernel_rfl) rfl (fun K hK => ?_)
  unfold bareOp
  refine OpW.out (wp_of_enter (run_call _ _ _ _ 16 Tryd.func16 (vs := #[U2.v, V.v]) (by simp only [List.map_toArray, List.map_cons, List.map_nil]; rfl) rfl (by kernel_rfl) (by kernel_rfl)) (rSame_any (V := U2) (U := V) _ HUI2.o (HV.o.keep HBW.o) HSU2.o.2.1 HSU2.o.2.2.2.1 HSU2.o.2.2.2.2.1 HSU2.o.2.2.2.2.2 (by have := HSU2.o.1; have := HVS.o; omega) (by have := HSU2.o.2.2.1; have := HVS.o; omega)) ?_)
  rintro e w7 ⟨rfl, hb7⟩
  refine ⟨_, rfl, ?_⟩
  replace F_g := Lh (F_g.o.keep hb7)
  replace F_b := Lh (F_b.o.keep hb7)
  replace F_v := Lh (F_v.o.keep hb7)
  replace F_r := Lh (F_r.o.keep hb7)
  replace HB2 := Lh (HB2.o.keep hb7)
  replace HBK2 := Lh (HBK2.o.keep hb7)
  replace HUC2 := Lh (HUC2.o.keep hb7)
  replace HUI2 := Lh (HUI2.o.keep hb7)
  replace HTC2 := Lh (HTC2.o.keep hb7)
  replace HTI2 := Lh (HTI2.o.keep hb7)
  replace F_d := Lh (F_d.o.keep hb7)
  replace F_e := Lh (F_e.o.keep hb7)
  replace HBW := Lh (HBW.o.trans (hb7.mono HBW.o.size))
  clear hb7 hS0
  have hS0 := And.intro F_g.o (And.intro F_d.o (And.intro F_e.o (And.intro F_b.o (And.intro F_v.o (And.intro F_r.o (And.intro HUC2.o HTC2.o))))))
  refine hK.o _ _ (fun _ => hS0) ?_
  clear hK K
  try simp only [Act.put, sZ]
  refine tkP (i := 35) (some 238) (.pick (.tmp 230) (.tmp 237) (.const (.bool false))) 4 (fun _ => hS0) ?_
  simp only [Act.put, sZ]
  refine tkP (i := 36) (some 239) (.move (.tmp 238)) 4 (fun _ => hS0) ?_
  simp only [Act.put, sZ]
  refine tkPG (i := 37) (some 240) (.fieldAddr 53 (.tmp 23) 2) 0 (some (36, true)) (fun _ => hS0) ?_
  simp only [Act.put, sZ]
  refine tkLG (i := 38) (some 241) (.load 51 (.tmp 240)) 51 (some (36, true)) [40, 41, 43, 44, 45] (v := ?_) hS0 (fun w' hSw => ?_) ?_
  rotate_left
  · obtain ⟨t1, t2, t3, t4, t5, t6, t7, t8⟩ := hSw; have g0 := t1.c 0 _ rfl; have c0_ := t2.c 0 _ rfl; have k0 := t3.c 0 _ rfl; have b0_ := t4.c 0 _ rfl; have g1 := t1.c 1 _ rfl; have c1_ := t2.c 1 _ rfl; have k1 := t3.c 1 _ rfl; have b1_ := t4.c 1 _ rfl; have g2 := t1.c 2 _ rfl; have c2_ := t2.c 2 _ rfl; have k2 := t3.c 2 _ rfl; have b2_ := t4.c 2 _ rfl; obtain ⟨⟨q0, q1, q2, q3, q4, q5, q6, q7, q8, q9, q10⟩, -⟩ := t5.k11; have r0 := t6.c 0 _ rfl; have r1 := t6.c 1 _ rfl; obtain ⟨-, z0, z1, z2, z3, z4, z5, z6, z7, z8, z9, z10⟩ := t7; obtain ⟨-, y0, y1⟩ := t8
    unfold bareOp; go_simp; try with_reducible rfl
  simp only [Act.put, sZ]
  refine tkPG (i := 39) (some 242) (.move (.tmp 25)) 3 (some (36, true)) (fun _ => hS0) ?_
  simp only [Act.put, sZ]
  refine tkPG (i := 40) (some 243) (.indexAddr 51 (.tmp 241) (.tmp 242)) 0 (some (36, true)) (fun _ => hS0) ?_
  simp only [Act.put, sZ]
  refine tkLG (i := 41) (some 244) (.load 57 (.tmp 243)) 57 (some (36, true)) [43, 44, 45] (v := ?_) hS0 (fun w' hSw => ?_) ?_
  rotate_left
  · obtain ⟨t1, t2, t3, t4, t5, t6, t7, t8⟩ := hSw; have g0 := t1.c 0 _ rfl; have c0_ := t2.c 0 _ rfl; have k0 := t3.c 0 _ rfl; have b0_ := t4.c 0 _ rfl; have g1 := t1.c 1 _ rfl; have c1_ := t2.c 1 _ rfl; have k1 := t3.c 1 _ rfl; have b1_ := t4.c 1 _ rfl; have g2 := t1.c 2 _ rfl; have c2_ := t2.c 2 _ rfl; have k2 := t3.c 2 _ rfl; have b2_ := t4.c 2 _ rfl; obtain ⟨⟨q0, q1, q2, q3, q4, q5, q6, q7, q8, q9, q10⟩, -⟩ := t5.k11; have r0 := t6.c 0 _ rfl; have r1 := t6.c 1 _ rfl; obtain ⟨-, z0, z1, z2, z3, z4, z5, z6, z7, z8, z9, z10⟩ := t7; obtain ⟨-, y0, y1⟩ := t8
    unfold bareOp; go_simp; try with_reducible rfl
  simp only [Act.put, sZ]
  refine tkLG (i := 42) (some 245) (.load 57 (.tmp 13)) 57 (some (36, true)) [43, 44, 45] (v := ?_) hS0 (fun w' hSw => ?_) ?_
  rotate_left
  · obtain ⟨t1, t2, t3, t4, t5, t6, t7, t8⟩ := hSw; have g0 := t1.c 0 _ rfl; have c0_ := t2.c 0 _ rfl; have k0 := t3.c 0 _ rfl; have b0_ := t4.c 0 _ rfl; have g1 := t1.c 1 _ rfl; have c1_ := t2.c 1 _ rfl; have k1 := t3.c 1 _ rfl; have b1_ := t4.c 1 _ rfl; have g2 := t1.c 2 _ rfl; have c2_ := t2.c 2 _ rfl; have k2 := t3.c 2 _ rfl; have b2_ := t4.c 2 _ rfl; obtain ⟨⟨q0, q1, q2, q3, q4, q5, q6, q7, q8, q9, q10⟩, -⟩ := t5.k11; have r0 := t6.c 0 _ rfl; have r1 := t6.c 1 _ rfl; obtain ⟨-, z0, z1, z2, z3, z4, z5, z6, z7, z8, z9, z10⟩ := t7; obtain ⟨-, y0, y1⟩ := t8
    unfold bareOp; go_simp; try with_reducible rfl
  simp only [Act.put, sZ]
  refine wpAnyB_onlyG (i := 43) (some 246) (.call { callee := .value (.func 23), args := #[.tmp 244, .tmp 245], argTypes := #[57, 57] }) 4 (some (36, true)) ⟨_, rfl, rfl, rfl, rfl, rfl⟩ (by kernel_rfl) rfl (fun K hK => ?_)
  unfold bareOp
  refine OpW.out (wp_of_enter (run_call _ _ _ _ 23 Tryd.func23 (vs := #[T2.v, R.v]) (by simp only [List.map_toArray, List.map_cons, List.map_nil]; rfl) rfl (by kernel_rfl) (by kernel_rfl)) (rReveal_any (R := T2) (S := R) _ HTI2.o (HR.o.keep HBW.o) HST2.o.2.1 HST2.o.2.2.2 (by have := HST2.o.1; have := HRS.o; omega) (by have := HST2.o.2.2.1; have := HRS.o; omega)) ?_)
  rintro e w7 ⟨rfl, hb7⟩
  refine ⟨_, rfl, ?_⟩
  replace F_g := Lh (F_g.o.keep hb7)
  replace F_b := Lh (F_b.o.keep hb7)
  replace F_v := Lh (F_v.o.keep hb7)
  replace F_r := Lh (F_r.o.keep hb7)
  replace HB2 := Lh (HB2.o.keep hb7)
  replace HBK2 := Lh (HBK2.o.keep hb7)
  replace HUC2 := Lh (HUC2.o.keep hb7)
  replace HUI2 := Lh (HUI2.o.keep hb7)
  replace HTC2 := Lh (HTC2.o.keep hb7)
  replace HTI2 := Lh (HTI2.o.keep hb7)
  replace F_d := Lh (F_d.o.keep hb7)
  replace F_e := Lh (F_e.o.keep hb7)
  replace HBW := Lh (HBW.o.trans (hb7.mono HBW.o.size))
  clear hb7 hS0
  have hS0 := And.intro F_g.o (And.intro F_d.o (And.intro F_e.o (And.intro F_b.o (And.intro F_v.o (And.intro F_r.o (And.intro HUC2.o HTC2.o))))))
  refine hK.o _ _ (fun _ => hS0) ?_
  clear hK K
  try simp only [Act.put, sZ]
  refine tkP (i := 44) (some 247) (.pick (.tmp 239) (.tmp 246) (.const (.bool false))) 4 (fun _ => hS0) ?_
  simp only [Act.put, sZ]
  refine onl (i := 45) (some 14) (.assign (.tmp 247)) 4 (fun K hK => ?_)
  unfold bareOp
  go_wp2_with fail
  refine hK.o _ _ lt8 ?_
  clear hK K
  try simp only [Act.put, sZ]
  refine wpAnyB_done (by kernel_rfl) ?_ _
  go_wp2_with fail
  go_ret
  exact ⟨rfl, HBW.o⟩
theorem reads (os : Os) {H : Type} (enc : TypeId × Value → H) : ∃ places, DataW.whole enc Tryd.prog ((World.doorLaid Tryd.prog 19 os).forCall (fun _ _ => 0) ⟨#[], #[.agg #[.int .u64 0, .int .u64 0, .int .u64 0], .int .u64 0, .int .i64 0, .bool false, .agg #[.slice none 0 0, .slice none 0 0, .slice none 0 0], .agg #[.slice none 0 0, .slice none 0 0, .bool false, .int .u64 0, .int .u64 0, .int .u64 0, .int .u64 0, .int .u64 0, .int .u64 0, .int .u64 0, .int .u64 0], .agg #[.slice none 0 0, .slice none 0 0]], []⟩).memory Tryd.f4.params.toList Rows.boothOnceSpec.vars false #[.agg #[.int .u64 0, .int .u64 0, .int .u64 0], .int .u64 0, .int .i64 0, .bool false, .agg #[.slice none 0 0, .slice none 0 0, .slice none 0 0], .agg #[.slice none 0 0, .slice none 0 0, .bool false, .int .u64 0, .int .u64 0, .int .u64 0, .int .u64 0, .int .u64 0, .int .u64 0, .int .u64 0, .int .u64 0], .agg #[.slice none 0 0, .slice none 0 0]].toList 8 = some ([.agg [.lit (.int .u64 0), .lit (.int .u64 0), .lit (.int .u64 0)], .lit (.int .u64 0), .lit (.int .i64 0), .lit (.bool false), .agg [.nil, .nil, .nil], .agg [.nil, .nil, .lit (.bool false), .agg [.agg [.lit (.int .u64 0), .lit (.int .u64 0)], .agg [.lit (.int .u64 0), .lit (.int .u64 0)], .agg [.lit (.int .u64 0), .lit (.int .u64 0)], .agg [.lit (.int .u64 0), .lit (.int .u64 0)]]], .agg [.nil, .nil]], [], places) :=
  ⟨[], by kernel_rfl⟩
theorem lifted (os : Os) (started : os.Started) (H : Type) (enc : TypeId × Value → H) (F : Stop.Interp) :
    ReturnsInHanded {} Tryd.checked os 4 .any ((Rows.OpenSpec.upto Rows.boothOnceSpec).preRow enc Tryd.prog Tryd.f4 Rows.boothOnceUptoRow.domain false Rows.boothOnceUptoRow.laid) (((Rows.OpenSpec.upto Rows.boothOnceSpec).at F).post enc Tryd.prog Tryd.f4 false true false false) := by
  obtain ⟨places, hx⟩ := reads os enc
  refine returnsInHanded_of_row (C := Tryd.checked) (s := Rows.OpenSpec.upto Rows.boothOnceSpec) own started (by kernel_rfl) Tryd.func4
    (witness_row_atRef (enc := enc) (C := Tryd.checked) false (World.doorLaid Tryd.prog 19 os) #[.agg #[.int .u64 0, .int .u64 0, .int .u64 0], .int .u64 0, .int .i64 0, .bool false, .agg #[.slice none 0 0, .slice none 0 0, .slice none 0 0], .agg #[.slice none 0 0, .slice none 0 0, .bool false, .int .u64 0, .int .u64 0, .int .u64 0, .int .u64 0, .int .u64 0, .int .u64 0, .int .u64 0, .int .u64 0], .agg #[.slice none 0 0, .slice none 0 0]] rfl (by kernel_rfl) (by kernel_rfl) (by kernel_rfl)
      (OpenSpec.preRow_of_cond 8 hx (by kernel_rfl) (fun k hk => by cases hk; kernel_rfl) (by kernel_rfl) (door_met os _))) ?_
  intro W base args ds gs before hval0 hW _ hcond _ hL _ _
  have hT := tabs_of_laid hL
  clear hL
  have hval : ∀ (j : Nat) t v, Tryd.f4.params[j]? = some t → args[j]? = some v → Value.okWide Tryd.prog W .any base t v := hval0
  have hW' := hW
  obtain ⟨p, q, hA0, hV, rfl, hfz, hnd⟩ := hW
  have hA : DataW.TrodAll enc Tryd.prog W 0 (fun _ => true) true Tryd.f4.params.toList args.toList ds p := hA0
  rw [Tryd.params4] at hA hval
  have hK := hA
  obtain ⟨v0, vs0, d0, ds0, p0, q0, hargs, rfl, rfl, h0, r0⟩ := trodAll_cons hA
  obtain ⟨v1, vs1, d1, ds1, p1, q1, rfl, rfl, rfl, h1, r1⟩ := trodAll_cons r0
  obtain ⟨v2, vs2, d2, ds2, p2, q2, rfl, rfl, rfl, h2, r2⟩ := trodAll_cons r1
  obtain ⟨v3, vs3, d3, ds3, p3, q3, rfl, rfl, rfl, h3, r3⟩ := trodAll_cons r2
  obtain ⟨v4, vs4, d4, ds4, p4, q4, rfl, rfl, rfl, h4, r4⟩ := trodAll_cons r3
  obtain ⟨v5, vs5, d5, ds5, p5, q5, rfl, rfl, rfl, h5, r5⟩ := trodAll_cons r4
  obtain ⟨v6, vs6, d6, ds6, p6, q6, rfl, rfl, rfl, h6, r6⟩ := trodAll_cons r5
  obtain ⟨rfl, rfl, rfl⟩ := trodAll_nil r6
  obtain rfl : args = #[v0, v1, v2, v3, v4, v5, v6] := by cases args; simp_all
  obtain ⟨rfl, rfl⟩ := trodVars_none hV
  obtain ⟨P, Q, G, rfl, uP, uQ, uG⟩ := open_group (hval 0 49 v0 rfl rfl) h0
  obtain ⟨y, rfl, uy⟩ := open_u64 (hval 1 24 v1 rfl rfl) h1
  obtain ⟨n, rfl, hn⟩ := open_i64 (hval 2 3 v2 rfl rfl) h2
  obtain ⟨one, rfl, u1⟩ := open_boolT (hval 3 4 v3 rfl rfl) h3
  obtain ⟨B, rfl, hB, hbl⟩ := open_booth (hval 4 53 v4 rfl rfl) h4
  obtain ⟨V, rfl, hV⟩ := open_vote (hval 5 29 v5 rfl rfl) h5
  obtain ⟨R, rfl, hR⟩ := open_reveal (hval 6 57 v6 rfl rfl) h6
  clear hA0 hval0
  have hbk := of_decide_eq_true (hcond _ rfl)
  simp only [List.append_nil, Rows.uptoBulkAll] at hbk
  have hsm : B.n + B.m + B.k ≤ 1048576 := by omega
  refine (walk P Q G y n one B V R W uP uQ uG uy hn u1 hB hV hR hsm hT).mono fun e W' ⟨he, bel⟩ => ?_
  subst he
  exact ⟨_, rfl, _, _, _, [], _, [], hW', trodAll_mk1 (shut_bool Tryd.underlying4 _), trodAll_stays laidOut (by kernel_rfl) hK bel, rfl, bel.frame _, fun h => by cases h⟩
theorem over : Rows.boothOnceUptoRow.holds Tryd.pinned (Rows.OpenSpec.upto Rows.boothOnceSpec) :=
  OpenClaim.holds_of_cond 4 Tryd.f4 rfl rfl rfl rfl rfl rfl rfl ⟨rfl, rfl, rfl, rfl, rfl⟩ rfl rfl rfl rfl rfl (by kernel_rfl) Tryd.func4 (by kernel_rfl)
    (of_decide_eq_true (by kernel_rfl)) (by unfold Func.isWrapper; first | (rw [if_pos (by decide +kernel)]; kernel_rfl) | (rw [if_neg (by decide +kernel)]; exact ⟨rfl, rfl⟩))
    (fun os started H enc _ F => by rw [OpenClaim.pre_eq_preRow]; exact lifted os started H enc F)
theorem proved : Rows.BoothOnceUptoCardSaid :=
  Claim7.holds_tied_plain_at .later [] [.data, .data] true (true, "5c00805133dfe0492bef048290696ebc112b228b3b9245def032e3bbb51dd56e") false
    over (fun _ h => by cases h) (by kernel_rfl) (fun _ h => by cases h) boothOnceUpto_row_tie rfl ⟨rfl, rfl⟩ (by kernel_rfl) rfl
    (fun f fn hf hfn => by
      obtain rfl : f = 4 := Option.some.inj ((show Tryd.prog.funcNamed "suffrage/suffragelaw36.BoothOnce" = some 4 by kernel_rfl).symm.trans hf) |>.symm
      obtain rfl : fn = Tryd.f4 := (Option.some.inj (Tryd.func4.symm.trans hfn)).symm
      exact ⟨by kernel_rfl, fun j t ht => by
       rw [Tryd.params4] at ht
       have hm : t ∈ ([49, 24, 3, 4, 53, 29, 57] : List TypeId) := by simpa using Array.mem_of_getElem? ht
       have hall : (([49, 24, 3, 4, 53, 29, 57] : List TypeId).all fun u => !Tryd.prog.wantsStandIn u) = true := by kernel_rfl
       exact (show Tryd.prog.wantsStandIn t = false by simpa using List.all_eq_true.1 hall t hm)⟩)
    (by kernel_rfl)
#print axioms proved
end Go.Proofs.YtlbldpkgnonbpaaDoor.lawOnce
