/- elgamal.Sum. -/
import Derived.Test.YtlbldpkgnonbpaaGreatDoorQsM
import Derived.Test.YtlbldpkgnonbpaaGreatDoorQsB
import Derived.Test.YtlbldpkgnonbpaaGreatDoorQsC
import Derived.LoopTactic
set_option linter.unusedSimpArgs false
set_option linter.unusedVariables false
set_option maxRecDepth 100000
namespace Go.Proofs.YtlbldpkgnonbpaaGreatDoor
open Go.RowKit Num
theorem Pair.added {w w' : World} {E b : Nat} {x y : Int} (h : Pair w b x y) (ha : Added w w' E) (hn : b ≠ E) : Pair w' b x y :=
 ⟨(ha.cell b 0 h.lt hn).trans h.c0, (ha.cell b 1 h.lt hn).trans h.c1, (ha.frozen b 0 h.lt hn).trans h.f0, (ha.frozen b 1 h.lt hn).trans h.f1, Nat.lt_of_lt_of_le h.lt (ha.below 0 (Nat.zero_le _) (Nat.zero_le _)).size⟩
theorem Boxed.added {w w' : World} {E B : Nat} {P Q G : Int} (h : Boxed w B P Q G) (ha : Added w w' E) (hn : B ≠ E) : Boxed w' B P Q G :=
 ⟨(ha.cell B 0 h.lt hn).trans h.c0, (ha.cell B 1 h.lt hn).trans h.c1, (ha.cell B 2 h.lt hn).trans h.c2, Nat.lt_of_lt_of_le h.lt (ha.below 0 (Nat.zero_le _) (Nat.zero_le _)).size⟩
theorem Eng.new (w : World) (B : Nat) (P Q G : Int) (h : Boxed w B P Q G) : Eng (w.alloc (.cells #[υ 1, υ 1, .func (.func 134) #[] #[.pointer (some ⟨B, 0, none⟩)]] 157)) w.heap.size B P Q G 1 1 := by
 refine ⟨?_, ?_, ?_, ?_, ?_, by simp, h.alloc _, Nat.ne_of_lt h.lt⟩
 · rw [World.cell?_alloc_new]; rfl
 · rw [World.cell?_alloc_new]; rfl
 · rw [World.cell?_alloc_new]; rfl
 · simp
 · simp
def plusP (P : Int) (a b : Int × Int) : Int × Int := (a.1 * b.1 % P, a.2 * b.2 % P)
def allP (P : Int) (ps : List (Int × Int)) : Int × Int := ps.foldl (plusP P) (1, 1)
def okS (P : Int) (ps : List (Int × Int)) : Bool := ps.all fun p => decide (p.1 < P) && decide (p.2 < P)
theorem allP_snoc (P : Int) (ps : List (Int × Int)) (k : Nat) (u v : Int) (h : k < ps.length) (hg : ps.getD k (0, 0) = (u, v)) : allP P (ps.take (k + 1)) = plusP P (allP P (ps.take k)) (u, v) := by
 have e : ps[k]? = some (u, v) := by rw [List.getD_eq_getElem?_getD] at hg; rw [List.getElem?_eq_getElem h] at hg ⊢; simpa using hg
 rw [List.take_add_one, e]
 simp [allP]
theorem okS_snoc (P : Int) (ps : List (Int × Int)) (k : Nat) (u v : Int) (h : k < ps.length) (hg : ps.getD k (0, 0) = (u, v)) : okS P (ps.take (k + 1)) = (okS P (ps.take k) && (decide (u < P) && decide (v < P))) := by
 have e : ps[k]? = some (u, v) := by rw [List.getD_eq_getElem?_getD] at hg; rw [List.getElem?_eq_getElem h] at hg ⊢; simpa using hg
 rw [List.take_add_one, e]
 simp [okS, List.all_append]
theorem okS_not (P : Int) (ps : List (Int × Int)) (k : Nat) (u v : Int) (h : k < ps.length) (hg : ps.getD k (0, 0) = (u, v)) (hb : ¬ (u < P ∧ v < P)) : okS P ps = false := by
 cases ho : okS P ps with
 | false => rfl
 | true =>
  exfalso
  have e : ps[k]? = some (u, v) := by rw [List.getD_eq_getElem?_getD] at hg; rw [List.getElem?_eq_getElem h] at hg ⊢; simpa using hg
  have hm : (u, v) ∈ ps := List.mem_of_getElem? e
  have := List.all_eq_true.1 ho _ hm
  simp at this
  exact hb this
theorem mem_getD {ps : List (Int × Int)} {k : Nat} {u v : Int} (h : k < ps.length) (hg : ps.getD k (0, 0) = (u, v)) : (u, v) ∈ ps := by
 have e : ps[k]? = some (u, v) := by rw [List.getD_eq_getElem?_getD] at hg; rw [List.getElem?_eq_getElem h] at hg ⊢; simpa using hg
 exact List.mem_of_getElem? e
def SumS (P Q G : Int) (ps : List (Int × Int)) (x y e : Int) : Prop :=
 (¬ Has P Q G ∧ x = 0 ∧ y = 0 ∧ e = 300) ∨ (Has P Q G ∧ 4096 < ps.length ∧ x = 0 ∧ y = 0 ∧ e = 4) ∨
 (Has P Q G ∧ ps.length ≤ 4096 ∧ okS P ps = false ∧ x = 0 ∧ y = 0 ∧ e = 2) ∨ (Has P Q G ∧ ps.length ≤ 4096 ∧ okS P ps = true ∧ allP P ps = (x, y) ∧ e = 0)
theorem SumS.exists (P Q G : Int) (ps : List (Int × Int)) : ∃ x y e, SumS P Q G ps x y e := by
 by_cases hH : Has P Q G
 · by_cases hn : ps.length ≤ 4096
   · cases ho : okS P ps with
     | false => exact ⟨_, _, _, .inr (.inr (.inl ⟨hH, hn, ho, rfl, rfl, rfl⟩))⟩
     | true => exact ⟨_, _, _, .inr (.inr (.inr ⟨hH, hn, ho, rfl, rfl⟩))⟩
   · exact ⟨_, _, _, .inr (.inl ⟨hH, by omega, rfl, rfl, rfl⟩)⟩
 · exact ⟨_, _, _, .inl ⟨hH, rfl, rfl, rfl⟩⟩
structure ESumIn (w wr : World) (E B g R : Nat) (P Q G : Int) (ps : List (Int × Int)) (k : Nat) : Prop where
 eng : ∃ p q, allP P (ps.take k) = (p, q) ∧ 0 ≤ p ∧ p < P ∧ 0 ≤ q ∧ q < P ∧ Eng wr E B P Q G p q
 box : Boxed wr g P Q G
 res : Pair wr R 0 0
 bel : Below w.heap.size w wr
 ok : okS P (ps.take k) = true
set_option maxHeartbeats 12800000 in
theorem esum_any {P Q G x y e' : Int} {a : Option Addr} {n c : Nat} {ps : List (Int × Int)} (w : World) (hP : 0 ≤ P) (hQ : 0 ≤ Q) (hG : 0 ≤ G) (hS : ShS w a n ps) (hN : ∀ p, p ∈ ps → 0 ≤ p.1 ∧ 0 ≤ p.2) (hv : SumS P Q G ps x y e') :
 Calls Tryz.prog 83 #[.agg #[υ P, υ Q, υ G], .slice a n c] w fun e w' => e = .returned (.tuple #[.agg #[υ x, υ y], .int .i64 e']) ∧ Below w.heap.size w w' := by
 have HS := Lh hS
 have HN := Lh hN
 have hnl := hS.len
 clear hS hN
 rcases hv with ⟨hH, rfl, rfl, rfl⟩ | ⟨hH, hn, rfl, rfl, rfl⟩ | ⟨hH, hn, ho, rfl, rfl, rfl⟩ | ⟨hH, hn, ho, hxy, rfl⟩
 · have HR := Lh (show askS P Q G [] [] = 300 from askS_no hH)
   clear hH
   have F_g := Lh (show Boxed ((w.alloc (.cells #[υ P, υ Q, υ G] 24)).alloc (.cells #[υ 0, υ 0] 75)) (w.heap.size) P Q G from (Boxed.at _ P Q G _ (w.heap.size) (by simp)).alloc _)
   have F_r := Lh (show Pair ((w.alloc (.cells #[υ P, υ Q, υ G] 24)).alloc (.cells #[υ 0, υ 0] 75)) (w.heap.size + 1) 0 0 from Pair.at _ 0 0 _ (w.heap.size + 1) (by simp))
   have HBW := Lh (show Below w.heap.size w ((w.alloc (.cells #[υ P, υ Q, υ G] 24)).alloc (.cells #[υ 0, υ 0] 75)) from ((Below.refl _ _).alloc (by simp <;> omega) _).alloc (by simp <;> omega) _)
   go_enter Tryz.func83, Tryz.ntmps83
   obtain ⟨xa, xb, xc, -⟩ := id F_g.o
   obtain ⟨ya, yb, yc, yd, -⟩ := id F_r.o
   go_wp2_with fail
   clear xa xb xc ya yb yc yd
   refine (echeck_any _ hP hQ hG (ShL.nil _) (ShL.nil _) (by simp) (by simp) HR.o).mono ?_
   rintro e w1 ⟨rfl, hb1⟩
   replace F_g := Lh (F_g.o.keep hb1)
   replace F_r := Lh (F_r.o.keep hb1)
   replace HBW := Kt HBW hb1
   clear hb1
   obtain ⟨xa, xb, xc, -⟩ := id F_g.o
   obtain ⟨ya, yb, yc, yd, -⟩ := id F_r.o
   go_wp2_with fail
   exact bodyPost_ret (res_pair rfl (F_r.o.stored 0 0) _ rfl rfl) rfl ⟨rfl, (HBW.o.setCell (by simp <;> omega) _).setCell (by simp <;> omega) _⟩
 · have HR := Lh (show askS P Q G [] [] = 0 from askS_ok hH (by simp) (by simp))
   have hn1 : (4096 : Int) < (n : Int) := by omega
   clear hH hn hnl
   have F_g := Lh (show Boxed ((w.alloc (.cells #[υ P, υ Q, υ G] 24)).alloc (.cells #[υ 0, υ 0] 75)) (w.heap.size) P Q G from (Boxed.at _ P Q G _ (w.heap.size) (by simp)).alloc _)
   have F_r := Lh (show Pair ((w.alloc (.cells #[υ P, υ Q, υ G] 24)).alloc (.cells #[υ 0, υ 0] 75)) (w.heap.size + 1) 0 0 from Pair.at _ 0 0 _ (w.heap.size + 1) (by simp))
   have HBW := Lh (show Below w.heap.size w ((w.alloc (.cells #[υ P, υ Q, υ G] 24)).alloc (.cells #[υ 0, υ 0] 75)) from ((Below.refl _ _).alloc (by simp <;> omega) _).alloc (by simp <;> omega) _)
   go_enter Tryz.func83, Tryz.ntmps83
   obtain ⟨xa, xb, xc, -⟩ := id F_g.o
   obtain ⟨ya, yb, yc, yd, -⟩ := id F_r.o
   go_wp2_with fail
   clear xa xb xc ya yb yc yd
   refine (echeck_any _ hP hQ hG (ShL.nil _) (ShL.nil _) (by simp) (by simp) HR.o).mono ?_
   rintro e w1 ⟨rfl, hb1⟩
   replace F_g := Lh (F_g.o.keep hb1)
   replace F_r := Lh (F_r.o.keep hb1)
   replace HBW := Kt HBW hb1
   clear hb1
   obtain ⟨xa, xb, xc, -⟩ := id F_g.o
   obtain ⟨ya, yb, yc, yd, -⟩ := id F_r.o
   go_wp2_with fail
   exact bodyPost_ret (res_pair rfl (F_r.o.stored 0 0) _ rfl rfl) rfl ⟨rfl, (HBW.o.setCell (by simp <;> omega) _).setCell (by simp <;> omega) _⟩
 · have HR := Lh (show askS P Q G [] [] = 0 from askS_ok hH (by simp) (by simp))
   have hn1 : (n : Int) ≤ 4096 := by omega
   have HH := Lh hH
   have HO3 := Lh ho
   clear hH hn hnl ho
   have hP1 : 1 < P := by have := HH.o.1; omega
   have F_g := Lh (show Boxed ((w.alloc (.cells #[υ P, υ Q, υ G] 24)).alloc (.cells #[υ 0, υ 0] 75)) (w.heap.size) P Q G from (Boxed.at _ P Q G _ (w.heap.size) (by simp)).alloc _)
   have F_r := Lh (show Pair ((w.alloc (.cells #[υ P, υ Q, υ G] 24)).alloc (.cells #[υ 0, υ 0] 75)) (w.heap.size + 1) 0 0 from Pair.at _ 0 0 _ (w.heap.size + 1) (by simp))
   have HBW := Lh (show Below w.heap.size w ((w.alloc (.cells #[υ P, υ Q, υ G] 24)).alloc (.cells #[υ 0, υ 0] 75)) from ((Below.refl _ _).alloc (by simp <;> omega) _).alloc (by simp <;> omega) _)
   go_enter Tryz.func83, Tryz.ntmps83
   obtain ⟨xa, xb, xc, -⟩ := id F_g.o
   obtain ⟨ya, yb, yc, yd, -⟩ := id F_r.o
   go_wp2_with fail
   clear xa xb xc ya yb yc yd
   refine (echeck_any _ hP hQ hG (ShL.nil _) (ShL.nil _) (by simp) (by simp) HR.o).mono ?_
   rintro e w1 ⟨rfl, hb1⟩
   replace F_g := Lh (F_g.o.keep hb1)
   replace F_r := Lh (F_r.o.keep hb1)
   replace HBW := Kt HBW hb1
   clear hb1
   obtain ⟨xa, xb, xc, -⟩ := id F_g.o
   obtain ⟨ya, yb, yc, yd, -⟩ := id F_r.o
   go_wp2_with fail
   clear xa xb xc ya yb yc yd
   have lt1g := F_g.o.lt
   have lt1r := F_r.o.lt
   refine (start_any P Q G w1).mono ?_
   rintro e w2 ⟨rfl, hb2, hg2⟩
   have hz2 := hb2.size
   replace F_g := Lh ((F_g.o.keep hb2).alloc (.cells #[υ 1, υ 1, .func (.func 134) #[] #[.pointer (some ⟨w1.heap.size, 0, none⟩)]] 157))
   replace F_r := Lh ((F_r.o.keep hb2).alloc (.cells #[υ 1, υ 1, .func (.func 134) #[] #[.pointer (some ⟨w1.heap.size, 0, none⟩)]] 157))
   have hbs := HBW.o.size
   replace HBW := Lh ((HBW.o.trans (hb2.mono HBW.o.size)).alloc (by omega) (.cells #[υ 1, υ 1, .func (.func 134) #[] #[.pointer (some ⟨w1.heap.size, 0, none⟩)]] 157))
   have HE := Lh (Eng.new w2 w1.heap.size P Q G hg2)
   have lt2 : w1.heap.size < w2.heap.size := hg2.lt
   clear hb2 hg2
   go_wp2_with fail
   go_loopw [9, 10, 25] (fun c9 c10 c25 wr => ∃ k : Nat, k ≤ n ∧ c25 = .int .i64 k ∧ Hid (ESumIn w wr w2.heap.size w1.heap.size w.heap.size (w.heap.size + 1) P Q G ps k)) (fun _ _ c25 _ => n - (intOf c25).toNat)
   case atStart => exact ⟨0, Nat.zero_le _, rfl, ⟨⟨1, 1, rfl, by omega, hP1, by omega, hP1, HE.o⟩, F_g.o, F_r.o, HBW.o, rfl⟩⟩
   case round =>
    clear F_g F_r HBW HE
    obtain ⟨k, hk, rfl, HK⟩ := hrel
    have hln := HS.o.len
    by_cases hlt : k < n
    case neg =>
     have hkn : k = n := by omega
     obtain ⟨p, q, hpq, p0, pP, q0, qP, hE⟩ := HK.o.eng
     have htk : ps.take k = ps := by rw [hkn, hln, List.take_length]
     have := HK.o.ok
     rw [htk, HO3.o] at this
     cases this
    case pos =>
     obtain ⟨s, o, hsa, hsl, d0, d1⟩ := (HS.o.keep HK.o.bel).at k hlt
     have hsw : s < w.heap.size := by
      rcases HS.o with ⟨h, -⟩ | ⟨s', o', h0, -, h2, -⟩
      · omega
      · rw [h0] at hsa; cases hsa; exact h2
     obtain ⟨u, v, huv⟩ : ∃ u v, ps.getD k (0, 0) = (u, v) := ⟨_, _, rfl⟩
     rw [huv] at d0 d1
     have hkl : k < ps.length := by omega
     have hmem := HN.o _ (mem_getD hkl huv)
     have hu0 : 0 ≤ u := hmem.1
     have hv0 : 0 ≤ v := hmem.2
     have HT := Lh (okS_snoc P ps k u v hkl huv)
     have HA := Lh (allP_snoc P ps k u v hkl huv)
     have HNO := Lh (okS_not P ps k u v hkl huv)
     have hln' := Lh hln
     clear huv hmem hln
     obtain ⟨p, q, hpq, p0, pP, q0, qP, hE⟩ := HK.o.eng
     have HE := Lh hE
     have HPQ := Lh hpq
     clear hE hpq
     have hk0 : (0 : Int) ≤ (k : Int) := by omega
     have hk1 : (k : Int) < (n : Int) := by omega
     have hzr := HK.o.bel.size
     have hzE := HE.o.lt
     have c26 : Tryz.prog.cellsOf 75 = 2 := by kernel_rfl
     have F_b := Lh HK.o.box
     have F_r := Lh HK.o.res
     have HBW := Lh HK.o.bel
     have HO := Lh HK.o.ok
     clear HK
     subst hsa
     have hzb := F_b.o.lt
     have hzR := F_r.o.lt
     obtain ⟨g0, g1, g2, -⟩ := id F_b.o
     by_cases hb : u < P ∧ v < P
     case neg =>
      have HR2 := Lh (show askS P Q G [] [u, v] = 2 from askS_n HH.o (by simp [okAll]; omega))
      have HF := Lh (HNO.o hb)
      clear hb
      go_wp2_with fail
      clear g0 g1 g2
      refine (echeck_any _ hP hQ hG (ShL.nil _) (ShL.laid _ [u, v] _ _ _ _ _ (by simp) rfl rfl) (by simp) (by simp) HR2.o).mono ?_
      rintro e w3 ⟨rfl, hb3⟩
      have hba := (Below.refl wr.heap.size wr).alloc (Nat.le_refl _) (.cells #[υ u, υ v] 75)
      have hbc := hba.alloc hba.size (.cells #[υ u, υ v] 22)
      have hbb : Below wr.heap.size wr w3 := hbc.trans (hb3.mono hbc.size)
      clear hba hbc
      replace F_r := Lh (F_r.o.keep hbb)
      replace HBW := Kt HBW hbb
      clear hb3 hbb
      obtain ⟨r0, r1, r2, r3, -⟩ := id F_r.o
      go_wp2_with fail
      exact bodyPost_ret (res_pair rfl (F_r.o.stored 0 0) _ rfl rfl) rfl ⟨rfl, (HBW.o.setCell (by simp <;> omega) _).setCell (by simp <;> omega) _⟩
     case pos =>
      obtain ⟨hu, hv⟩ := hb
      have HR2 := Lh (show askS P Q G [] [u, v] = 0 from askS_ok HH.o (by simp) (by simp; omega))
      go_wp2_with fail
      clear g0 g1 g2
      refine (echeck_any _ hP hQ hG (ShL.nil _) (ShL.laid _ [u, v] _ _ _ _ _ (by simp) rfl rfl) (by simp) (by simp) HR2.o).mono ?_
      rintro e w3 ⟨rfl, hb3⟩
      have hba := (Below.refl wr.heap.size wr).alloc (Nat.le_refl _) (.cells #[υ u, υ v] 75)
      have hbc := hba.alloc hba.size (.cells #[υ u, υ v] 22)
      have hbb : Below wr.heap.size wr w3 := hbc.trans (hb3.mono hbc.size)
      clear hba hbc
      have F_c := Lh (((Pair.at wr u v 75 wr.heap.size rfl).alloc (.cells #[υ u, υ v] 22)).keep hb3)
      replace F_r := Lh (F_r.o.keep hbb)
      replace F_b := Lh (F_b.o.keep hbb)
      replace HE := Lh (HE.o.keep hbb)
      replace HBW := Kt HBW hbb
      have hz3 := hbb.size
      clear hb3 hbb
      obtain ⟨r0, r1, r2, r3, -⟩ := id F_c.o
      go_wp2_with fail
      clear r0 r1 r2 r3
      refine (eadd_any _ HE.o HH.o p0 pP q0 qP hu0 hu hv0 hv rfl rfl).mono ?_
      rintro e w4 ⟨rfl, hE4, hA4⟩
      replace HE := Lh hE4
      replace F_r := Lh (F_r.o.added hA4 (by omega))
      replace F_b := Lh (F_b.o.added hA4 (by omega))
      replace HBW := Lh (HBW.o.trans (hA4.below w.heap.size (by omega) (by omega)))
      clear hE4 hA4
      go_wp2_with fail
      go_roundw
      case rel =>
       refine ⟨k + 1, by omega, by go_num, ⟨⟨_, _, ?_, Int.emod_nonneg _ (by omega), Int.emod_lt_of_pos _ (by omega), Int.emod_nonneg _ (by omega), Int.emod_lt_of_pos _ (by omega), HE.o⟩, F_b.o, F_r.o, HBW.o, ?_⟩⟩
       · rw [HA.o, HPQ.o]; rfl
       · rw [HT.o, HO.o]; simp [hu, hv]
      case measure => simp [intOf]; omega
 · have HR := Lh (show askS P Q G [] [] = 0 from askS_ok hH (by simp) (by simp))
   have hn1 : (n : Int) ≤ 4096 := by omega
   have HH := Lh hH
   have HO4 := Lh ho
   have HV := Lh hxy
   clear hH hn hnl ho hxy
   have hP1 : 1 < P := by have := HH.o.1; omega
   have F_g := Lh (show Boxed ((w.alloc (.cells #[υ P, υ Q, υ G] 24)).alloc (.cells #[υ 0, υ 0] 75)) (w.heap.size) P Q G from (Boxed.at _ P Q G _ (w.heap.size) (by simp)).alloc _)
   have F_r := Lh (show Pair ((w.alloc (.cells #[υ P, υ Q, υ G] 24)).alloc (.cells #[υ 0, υ 0] 75)) (w.heap.size + 1) 0 0 from Pair.at _ 0 0 _ (w.heap.size + 1) (by simp))
   have HBW := Lh (show Below w.heap.size w ((w.alloc (.cells #[υ P, υ Q, υ G] 24)).alloc (.cells #[υ 0, υ 0] 75)) from ((Below.refl _ _).alloc (by simp <;> omega) _).alloc (by simp <;> omega) _)
   go_enter Tryz.func83, Tryz.ntmps83
   obtain ⟨xa, xb, xc, -⟩ := id F_g.o
   obtain ⟨ya, yb, yc, yd, -⟩ := id F_r.o
   go_wp2_with fail
   clear xa xb xc ya yb yc yd
   refine (echeck_any _ hP hQ hG (ShL.nil _) (ShL.nil _) (by simp) (by simp) HR.o).mono ?_
   rintro e w1 ⟨rfl, hb1⟩
   replace F_g := Lh (F_g.o.keep hb1)
   replace F_r := Lh (F_r.o.keep hb1)
   replace HBW := Kt HBW hb1
   clear hb1
   obtain ⟨xa, xb, xc, -⟩ := id F_g.o
   obtain ⟨ya, yb, yc, yd, -⟩ := id F_r.o
   go_wp2_with fail
   clear xa xb xc ya yb yc yd
   have lt1g := F_g.o.lt
   have lt1r := F_r.o.lt
   refine (start_any P Q G w1).mono ?_
   rintro e w2 ⟨rfl, hb2, hg2⟩
   have hz2 := hb2.size
   replace F_g := Lh ((F_g.o.keep hb2).alloc (.cells #[υ 1, υ 1, .func (.func 134) #[] #[.pointer (some ⟨w1.heap.size, 0, none⟩)]] 157))
   replace F_r := Lh ((F_r.o.keep hb2).alloc (.cells #[υ 1, υ 1, .func (.func 134) #[] #[.pointer (some ⟨w1.heap.size, 0, none⟩)]] 157))
   have hbs := HBW.o.size
   replace HBW := Lh ((HBW.o.trans (hb2.mono HBW.o.size)).alloc (by omega) (.cells #[υ 1, υ 1, .func (.func 134) #[] #[.pointer (some ⟨w1.heap.size, 0, none⟩)]] 157))
   have HE := Lh (Eng.new w2 w1.heap.size P Q G hg2)
   have lt2 : w1.heap.size < w2.heap.size := hg2.lt
   clear hb2 hg2
   go_wp2_with fail
   go_loopw [9, 10, 25] (fun c9 c10 c25 wr => ∃ k : Nat, k ≤ n ∧ c25 = .int .i64 k ∧ Hid (ESumIn w wr w2.heap.size w1.heap.size w.heap.size (w.heap.size + 1) P Q G ps k)) (fun _ _ c25 _ => n - (intOf c25).toNat)
   case atStart => exact ⟨0, Nat.zero_le _, rfl, ⟨⟨1, 1, rfl, by omega, hP1, by omega, hP1, HE.o⟩, F_g.o, F_r.o, HBW.o, rfl⟩⟩
   case round =>
    clear F_g F_r HBW HE
    obtain ⟨k, hk, rfl, HK⟩ := hrel
    have hln := HS.o.len
    by_cases hlt : k < n
    case neg =>
     have hkn : k = n := by omega
     obtain ⟨p, q, hpq, p0, pP, q0, qP, hE⟩ := HK.o.eng
     have htk : ps.take k = ps := by rw [hkn, hln, List.take_length]
     obtain ⟨rfl, rfl⟩ : p = x ∧ q = y := by rw [htk, HV.o] at hpq; cases hpq; exact ⟨rfl, rfl⟩
     have F_r := Lh HK.o.res
     have HBW := Lh HK.o.bel
     obtain ⟨e0, e1, -, -, -, -, -, -⟩ := hE
     clear hpq htk HK
     have hzr := HBW.o.size
     obtain ⟨r0, r1, r2, r3, -⟩ := id F_r.o
     go_wp2_with fail
     exact bodyPost_ret (res_pair rfl (F_r.o.stored p q) _ rfl rfl) rfl ⟨rfl, (HBW.o.setCell (by simp <;> omega) _).setCell (by simp <;> omega) _⟩
    case pos =>
     obtain ⟨s, o, hsa, hsl, d0, d1⟩ := (HS.o.keep HK.o.bel).at k hlt
     have hsw : s < w.heap.size := by
      rcases HS.o with ⟨h, -⟩ | ⟨s', o', h0, -, h2, -⟩
      · omega
      · rw [h0] at hsa; cases hsa; exact h2
     obtain ⟨u, v, huv⟩ : ∃ u v, ps.getD k (0, 0) = (u, v) := ⟨_, _, rfl⟩
     rw [huv] at d0 d1
     have hkl : k < ps.length := by omega
     have hmem := HN.o _ (mem_getD hkl huv)
     have hu0 : 0 ≤ u := hmem.1
     have hv0 : 0 ≤ v := hmem.2
     have HT := Lh (okS_snoc P ps k u v hkl huv)
     have HA := Lh (allP_snoc P ps k u v hkl huv)
     have HNO := Lh (okS_not P ps k u v hkl huv)
     have hln' := Lh hln
     clear huv hmem hln
     obtain ⟨p, q, hpq, p0, pP, q0, qP, hE⟩ := HK.o.eng
     have HE := Lh hE
     have HPQ := Lh hpq
     clear hE hpq
     have hk0 : (0 : Int) ≤ (k : Int) := by omega
     have hk1 : (k : Int) < (n : Int) := by omega
     have hzr := HK.o.bel.size
     have hzE := HE.o.lt
     have c26 : Tryz.prog.cellsOf 75 = 2 := by kernel_rfl
     have F_b := Lh HK.o.box
     have F_r := Lh HK.o.res
     have HBW := Lh HK.o.bel
     have HO := Lh HK.o.ok
     clear HK
     subst hsa
     have hzb := F_b.o.lt
     have hzR := F_r.o.lt
     obtain ⟨g0, g1, g2, -⟩ := id F_b.o
     by_cases hb : u < P ∧ v < P
     case neg =>
      have HR2 := Lh (show askS P Q G [] [u, v] = 2 from askS_n HH.o (by simp [okAll]; omega))
      have HF := Lh (HNO.o hb)
      clear hb
      go_wp2_with fail
      clear g0 g1 g2
      refine (echeck_any _ hP hQ hG (ShL.nil _) (ShL.laid _ [u, v] _ _ _ _ _ (by simp) rfl rfl) (by simp) (by simp) HR2.o).mono ?_
      rintro e w3 ⟨rfl, hb3⟩
      have hba := (Below.refl wr.heap.size wr).alloc (Nat.le_refl _) (.cells #[υ u, υ v] 75)
      have hbc := hba.alloc hba.size (.cells #[υ u, υ v] 22)
      have hbb : Below wr.heap.size wr w3 := hbc.trans (hb3.mono hbc.size)
      clear hba hbc
      replace F_r := Lh (F_r.o.keep hbb)
      replace HBW := Kt HBW hbb
      clear hb3 hbb
      obtain ⟨r0, r1, r2, r3, -⟩ := id F_r.o
      go_wp2_with fail
      have hff := HF.o
      rw [HO4.o] at hff
      cases hff
     case pos =>
      obtain ⟨hu, hv⟩ := hb
      have HR2 := Lh (show askS P Q G [] [u, v] = 0 from askS_ok HH.o (by simp) (by simp; omega))
      go_wp2_with fail
      clear g0 g1 g2
      refine (echeck_any _ hP hQ hG (ShL.nil _) (ShL.laid _ [u, v] _ _ _ _ _ (by simp) rfl rfl) (by simp) (by simp) HR2.o).mono ?_
      rintro e w3 ⟨rfl, hb3⟩
      have hba := (Below.refl wr.heap.size wr).alloc (Nat.le_refl _) (.cells #[υ u, υ v] 75)
      have hbc := hba.alloc hba.size (.cells #[υ u, υ v] 22)
      have hbb : Below wr.heap.size wr w3 := hbc.trans (hb3.mono hbc.size)
      clear hba hbc
      have F_c := Lh (((Pair.at wr u v 75 wr.heap.size rfl).alloc (.cells #[υ u, υ v] 22)).keep hb3)
      replace F_r := Lh (F_r.o.keep hbb)
      replace F_b := Lh (F_b.o.keep hbb)
      replace HE := Lh (HE.o.keep hbb)
      replace HBW := Kt HBW hbb
      have hz3 := hbb.size
      clear hb3 hbb
      obtain ⟨r0, r1, r2, r3, -⟩ := id F_c.o
      go_wp2_with fail
      clear r0 r1 r2 r3
      refine (eadd_any _ HE.o HH.o p0 pP q0 qP hu0 hu hv0 hv rfl rfl).mono ?_
      rintro e w4 ⟨rfl, hE4, hA4⟩
      replace HE := Lh hE4
      replace F_r := Lh (F_r.o.added hA4 (by omega))
      replace F_b := Lh (F_b.o.added hA4 (by omega))
      replace HBW := Lh (HBW.o.trans (hA4.below w.heap.size (by omega) (by omega)))
      clear hE4 hA4
      go_wp2_with fail
      go_roundw
      case rel =>
       refine ⟨k + 1, by omega, by go_num, ⟨⟨_, _, ?_, Int.emod_nonneg _ (by omega), Int.emod_lt_of_pos _ (by omega), Int.emod_nonneg _ (by omega), Int.emod_lt_of_pos _ (by omega), HE.o⟩, F_b.o, F_r.o, HBW.o, ?_⟩⟩
       · rw [HA.o, HPQ.o]; rfl
       · rw [HT.o, HO.o]; simp [hu, hv]
      case measure => simp [intOf]; omega
end Go.Proofs.YtlbldpkgnonbpaaGreatDoor
