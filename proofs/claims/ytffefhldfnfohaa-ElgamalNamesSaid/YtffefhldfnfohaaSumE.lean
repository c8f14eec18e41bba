/- Sums of lists of ciphertexts: the plain sum, and elgamal.Sum. -/
import Derived.Test.YtffefhldfnfohaaElgAdd
import Derived.Test.YtffefhldfnfohaaListS
import Derived.LoopTactic
namespace Go.Proofs.Ytffefhldfnfohaa
open Go.RowKit Num
set_option linter.unusedSimpArgs false
set_option linter.unusedVariables false

def plusP (P : Int) (a b : Int × Int) : Int × Int := (a.1 * b.1 % P, a.2 * b.2 % P)
/-- The sum of a list of ciphertexts. -/
def allP (P : Int) (ps : List (Int × Int)) : Int × Int := ps.foldl (plusP P) (1, 1)
def okS (P : Int) (ps : List (Int × Int)) : Bool := ps.all fun p => decide (p.1 < P) && decide (p.2 < P)
theorem allP_snoc (P : Int) (ps : List (Int × Int)) (k : Nat) (u v : Int) (h : k < ps.length) (hg : ps.getD k (0, 0) = (u, v)) : allP P (ps.take (k + 1)) = plusP P (allP P (ps.take k)) (u, v) := by
  have e : ps[k]? = some (u, v) := by rw [List.getD_eq_getElem?_getD] at hg; rw [List.getElem?_eq_getElem h] at hg ⊢; simpa using hg
  rw [List.take_add_one, e]
  simp [allP]
theorem okS_snoc (P : Int) (ps : List (Int × Int)) (k : Nat) (u v : Int) (h : k < ps.length) (hg : ps.getD k (0, 0) = (u, v)) : okS P (ps.take (k + 1)) = (okS P (ps.take k) && (decide (u < P) && decide (v < P))) := by
  have e : ps[k]? = some (u, v) := by rw [List.getD_eq_getElem?_getD] at hg; rw [List.getElem?_eq_getElem h] at hg ⊢; simpa using hg
  rw [List.take_add_one, e]
  simp [okS, List.all_append]
theorem okS_not (P : Int) (ps : List (Int × Int)) (k : Nat) (u v : Int) (h : k < ps.length) (hg : ps.getD k (0, 0) = (u, v)) (hb : ¬ (u < P ∧ v < P)) : okS P ps = false := by
  cases ho : okS P ps with
  | false => rfl
  | true =>
    exfalso
    have e : ps[k]? = some (u, v) := by rw [List.getD_eq_getElem?_getD] at hg; rw [List.getElem?_eq_getElem h] at hg ⊢; simpa using hg
    have hm : (u, v) ∈ ps := List.mem_of_getElem? e
    have := List.all_eq_true.1 ho _ hm
    simp at this
    exact hb this
theorem mem_getD {ps : List (Int × Int)} {k : Nat} {u v : Int} (h : k < ps.length) (hg : ps.getD k (0, 0) = (u, v)) : (u, v) ∈ ps := by
  have e : ps[k]? = some (u, v) := by rw [List.getD_eq_getElem?_getD] at hg; rw [List.getElem?_eq_getElem h] at hg ⊢; simpa using hg
  exact List.mem_of_getElem? e
/-- What Sum gives. -/
def SumS (P Q G : Int) (ps : List (Int × Int)) (x y e : Int) : Prop :=
  (¬ Has P Q G ∧ x = 0 ∧ y = 0 ∧ e = 300) ∨ (Has P Q G ∧ 4096 < ps.length ∧ x = 0 ∧ y = 0 ∧ e = 4) ∨
  (Has P Q G ∧ ps.length ≤ 4096 ∧ okS P ps = false ∧ x = 0 ∧ y = 0 ∧ e = 2) ∨ (Has P Q G ∧ ps.length ≤ 4096 ∧ okS P ps = true ∧ allP P ps = (x, y) ∧ e = 0)
theorem SumS.exists (P Q G : Int) (ps : List (Int × Int)) : ∃ x y e, SumS P Q G ps x y e := by
  by_cases hH : Has P Q G
  · by_cases hn : ps.length ≤ 4096
    · cases ho : okS P ps with
      | false => exact ⟨_, _, _, .inr (.inr (.inl ⟨hH, hn, ho, rfl, rfl, rfl⟩))⟩
      | true => exact ⟨_, _, _, .inr (.inr (.inr ⟨hH, hn, ho, rfl, rfl⟩))⟩
    · exact ⟨_, _, _, .inr (.inl ⟨hH, by omega, rfl, rfl, rfl⟩)⟩
  · exact ⟨_, _, _, .inl ⟨hH, rfl, rfl, rfl⟩⟩

/-- What holds behind k rounds of Sum. -/
structure SumIn (w wr : World) (E B g R : Nat) (P Q G : Int) (ps : List (Int × Int)) (k : Nat) : Prop where
  eng : ∃ p q, allP P (ps.take k) = (p, q) ∧ 0 ≤ p ∧ p < P ∧ 0 ≤ q ∧ q < P ∧ Eng wr E B P Q G p q
  box : Boxed wr g P Q G
  res : Pair wr R 0 0
  bel : Below w.heap.size w wr
  ok : okS P (ps.take k) = true

set_option maxRecDepth 100000 in
set_option maxHeartbeats 12800000 in
theorem esum_any {P Q G x y e' : Int} {a : Option Addr} {n c : Nat} {ps : List (Int × Int)} (w : World) (hP : 0 ≤ P) (hQ : 0 ≤ Q) (hG : 0 ≤ G) (hS : ShS w a n ps) (hN : ∀ p, p ∈ ps → 0 ≤ p.1 ∧ 0 ≤ p.2) (hv : SumS P Q G ps x y e') :
    Calls Try.prog 15 #[.agg #[.int .u64 P, .int .u64 Q, .int .u64 G], .slice a n c] w fun e w' => e = .returned (.tuple #[.agg #[.int .u64 x, .int .u64 y], .int .i64 e']) ∧ Below w.heap.size w w' := by
  have HS := Lib.hid hS
  have HN := Lib.hid hN
  have hnl := hS.len
  clear hS hN
  rcases hv with ⟨hH, rfl, rfl, rfl⟩ | ⟨hH, hn, rfl, rfl, rfl⟩ | ⟨hH, hn, ho, rfl, rfl, rfl⟩ | ⟨hH, hn, ho, hxy, rfl⟩
  · have HR := Lib.hid (show askS P Q G [] [] = 300 from askS_no hH)
    clear hH
    have F_g := Lib.hid (show Boxed ((w.alloc (.cells #[.int .u64 P, .int .u64 Q, .int .u64 G] 24)).alloc (.cells #[.int .u64 0, .int .u64 0] 26)) (w.heap.size) P Q G from (Boxed.at _ P Q G _ (w.heap.size) (by simp)).alloc _)
    have F_r := Lib.hid (show Pair ((w.alloc (.cells #[.int .u64 P, .int .u64 Q, .int .u64 G] 24)).alloc (.cells #[.int .u64 0, .int .u64 0] 26)) (w.heap.size + 1) 0 0 from Pair.at _ 0 0 _ (w.heap.size + 1) (by simp))
    have HBW := Lib.hid (show Below w.heap.size w ((w.alloc (.cells #[.int .u64 P, .int .u64 Q, .int .u64 G] 24)).alloc (.cells #[.int .u64 0, .int .u64 0] 26)) from ((Below.refl _ _).alloc (by simp <;> omega) _).alloc (by simp <;> omega) _)
    go_enter Try.func15, Try.ntmps15
    obtain ⟨x0a, x0b, x0c, -⟩ := id F_g.out
    obtain ⟨x1a, x1b, x1c, x1d, -⟩ := id F_r.out
    go_wp2_with fail
    clear x0a x0b x0c x1a x1b x1c x1d
    refine (echeck_any _ hP hQ hG (ShL.nil _) (ShL.nil _) (by simp) (by simp) HR.out).mono ?_
    rintro e w1 ⟨rfl, hb1⟩
    replace F_g := Lib.hid (F_g.out.keep hb1)
    replace F_r := Lib.hid (F_r.out.keep hb1)
    replace HBW := Lib.hid (HBW.out.trans (hb1.mono HBW.out.size))
    clear hb1
    obtain ⟨x0a, x0b, x0c, -⟩ := id F_g.out
    obtain ⟨x1a, x1b, x1c, x1d, -⟩ := id F_r.out
    go_wp2_with fail
    exact bodyPost_ret (res_pair rfl (F_r.out.stored 0 0) _ rfl rfl) rfl ⟨rfl, (HBW.out.setCell (by simp <;> omega) _).setCell (by simp <;> omega) _⟩
  · have HR := Lib.hid (show askS P Q G [] [] = 0 from askS_ok hH (by simp) (by simp))
    have hn1 : (4096 : Int) < (n : Int) := by omega
    clear hH hn hnl
    have F_g := Lib.hid (show Boxed ((w.alloc (.cells #[.int .u64 P, .int .u64 Q, .int .u64 G] 24)).alloc (.cells #[.int .u64 0, .int .u64 0] 26)) (w.heap.size) P Q G from (Boxed.at _ P Q G _ (w.heap.size) (by simp)).alloc _)
    have F_r := Lib.hid (show Pair ((w.alloc (.cells #[.int .u64 P, .int .u64 Q, .int .u64 G] 24)).alloc (.cells #[.int .u64 0, .int .u64 0] 26)) (w.heap.size + 1) 0 0 from Pair.at _ 0 0 _ (w.heap.size + 1) (by simp))
    have HBW := Lib.hid (show Below w.heap.size w ((w.alloc (.cells #[.int .u64 P, .int .u64 Q, .int .u64 G] 24)).alloc (.cells #[.int .u64 0, .int .u64 0] 26)) from ((Below.refl _ _).alloc (by simp <;> omega) _).alloc (by simp <;> omega) _)
    go_enter Try.func15, Try.ntmps15
    obtain ⟨x0a, x0b, x0c, -⟩ := id F_g.out
    obtain ⟨x1a, x1b, x1c, x1d, -⟩ := id F_r.out
    go_wp2_with fail
    clear x0a x0b x0c x1a x1b x1c x1d
    refine (echeck_any _ hP hQ hG (ShL.nil _) (ShL.nil _) (by simp) (by simp) HR.out).mono ?_
    rintro e w1 ⟨rfl, hb1⟩
    replace F_g := Lib.hid (F_g.out.keep hb1)
    replace F_r := Lib.hid (F_r.out.keep hb1)
    replace HBW := Lib.hid (HBW.out.trans (hb1.mono HBW.out.size))
    clear hb1
    obtain ⟨x0a, x0b, x0c, -⟩ := id F_g.out
    obtain ⟨x1a, x1b, x1c, x1d, -⟩ := id F_r.out
    go_wp2_with fail
    exact bodyPost_ret (res_pair rfl (F_r.out.stored 0 0) _ rfl rfl) rfl ⟨rfl, (HBW.out.setCell (by simp <;> omega) _).setCell (by simp <;> omega) _⟩
  · have HR := Lib.hid (show askS P Q G [] [] = 0 from askS_ok hH (by simp) (by simp))
    have hn1 : (n : Int) ≤ 4096 := by omega
    have HH := Lib.hid hH
    have HO3 := Lib.hid ho
    clear hH hn hnl ho
    have hP1 : 1 < P := by have := HH.out.1; omega
    have F_g := Lib.hid (show Boxed ((w.alloc (.cells #[.int .u64 P, .int .u64 Q, .int .u64 G] 24)).alloc (.cells #[.int .u64 0, .int .u64 0] 26)) (w.heap.size) P Q G from (Boxed.at _ P Q G _ (w.heap.size) (by simp)).alloc _)
    have F_r := Lib.hid (show Pair ((w.alloc (.cells #[.int .u64 P, .int .u64 Q, .int .u64 G] 24)).alloc (.cells #[.int .u64 0, .int .u64 0] 26)) (w.heap.size + 1) 0 0 from Pair.at _ 0 0 _ (w.heap.size + 1) (by simp))
    have HBW := Lib.hid (show Below w.heap.size w ((w.alloc (.cells #[.int .u64 P, .int .u64 Q, .int .u64 G] 24)).alloc (.cells #[.int .u64 0, .int .u64 0] 26)) from ((Below.refl _ _).alloc (by simp <;> omega) _).alloc (by simp <;> omega) _)
    go_enter Try.func15, Try.ntmps15
    obtain ⟨x0a, x0b, x0c, -⟩ := id F_g.out
    obtain ⟨x1a, x1b, x1c, x1d, -⟩ := id F_r.out
    go_wp2_with fail
    clear x0a x0b x0c x1a x1b x1c x1d
    refine (echeck_any _ hP hQ hG (ShL.nil _) (ShL.nil _) (by simp) (by simp) HR.out).mono ?_
    rintro e w1 ⟨rfl, hb1⟩
    replace F_g := Lib.hid (F_g.out.keep hb1)
    replace F_r := Lib.hid (F_r.out.keep hb1)
    replace HBW := Lib.hid (HBW.out.trans (hb1.mono HBW.out.size))
    clear hb1
    obtain ⟨x0a, x0b, x0c, -⟩ := id F_g.out
    obtain ⟨x1a, x1b, x1c, x1d, -⟩ := id F_r.out
    go_wp2_with fail
    clear x0a x0b x0c x1a x1b x1c x1d
    have lt1g := F_g.out.lt
    have lt1r := F_r.out.lt
    refine (start_any P Q G w1).mono ?_
    rintro e w2 ⟨rfl, hb2, hg2⟩
    have hz2 := hb2.size
    replace F_g := Lib.hid ((F_g.out.keep hb2).alloc (.cells #[.int .u64 1, .int .u64 1, .func (.func 54) #[] #[.pointer (some ⟨w1.heap.size, 0, none⟩)]] 76))
    replace F_r := Lib.hid ((F_r.out.keep hb2).alloc (.cells #[.int .u64 1, .int .u64 1, .func (.func 54) #[] #[.pointer (some ⟨w1.heap.size, 0, none⟩)]] 76))
    have hbs := HBW.out.size
    replace HBW := Lib.hid ((HBW.out.trans (hb2.mono HBW.out.size)).alloc (by omega) (.cells #[.int .u64 1, .int .u64 1, .func (.func 54) #[] #[.pointer (some ⟨w1.heap.size, 0, none⟩)]] 76))
    have HE := Lib.hid (Eng.new w2 w1.heap.size P Q G hg2)
    have lt2 : w1.heap.size < w2.heap.size := hg2.lt
    clear hb2 hg2
    go_wp2_with fail
    go_loopw [9, 10, 25] (fun c9 c10 c25 wr => ∃ k : Nat, k ≤ n ∧ c25 = .int .i64 k ∧ Hid (SumIn w wr w2.heap.size w1.heap.size w.heap.size (w.heap.size + 1) P Q G ps k)) (fun _ _ c25 _ => n - (intOf c25).toNat)
    case atStart => exact ⟨0, Nat.zero_le _, rfl, ⟨⟨1, 1, rfl, by omega, hP1, by omega, hP1, HE.out⟩, F_g.out, F_r.out, HBW.out, rfl⟩⟩
    case round =>
      clear F_g F_r HBW HE
      obtain ⟨k, hk, rfl, HK⟩ := hrel
      have hln := HS.out.len
      by_cases hlt : k < n
      case neg =>
        have hkn : k = n := by omega
        obtain ⟨p, q, hpq, p0, pP, q0, qP, hE⟩ := HK.out.eng
        have htk : ps.take k = ps := by rw [hkn, hln, List.take_length]
        have := HK.out.ok
        rw [htk, HO3.out] at this
        cases this
      case pos =>
        obtain ⟨s, o, hsa, hsl, d0, d1⟩ := (HS.out.keep HK.out.bel).at k hlt
        have hsw : s < w.heap.size := by
          rcases HS.out with ⟨h, -⟩ | ⟨s', o', h0, -, h2, -⟩
          · omega
          · rw [h0] at hsa; cases hsa; exact h2
        obtain ⟨u, v, huv⟩ : ∃ u v, ps.getD k (0, 0) = (u, v) := ⟨_, _, rfl⟩
        rw [huv] at d0 d1
        have hkl : k < ps.length := by omega
        have hmem := HN.out _ (mem_getD hkl huv)
        have hu0 : 0 ≤ u := hmem.1
        have hv0 : 0 ≤ v := hmem.2
        have HT := Lib.hid (okS_snoc P ps k u v hkl huv)
        have HA := Lib.hid (allP_snoc P ps k u v hkl huv)
        have HNO := Lib.hid (okS_not P ps k u v hkl huv)
        have hln' := Lib.hid hln
        clear huv hmem hln
        obtain ⟨p, q, hpq, p0, pP, q0, qP, hE⟩ := HK.out.eng
        have HE := Lib.hid hE
        have HPQ := Lib.hid hpq
        clear hE hpq
        have hk0 : (0 : Int) ≤ (k : Int) := by omega
        have hk1 : (k : Int) < (n : Int) := by omega
        have hzr := HK.out.bel.size
        have hzE := HE.out.lt
        have c26 : Try.prog.cellsOf 26 = 2 := by kernel_rfl
        have F_b := Lib.hid HK.out.box
        have F_r := Lib.hid HK.out.res
        have HBW := Lib.hid HK.out.bel
        have HO := Lib.hid HK.out.ok
        clear HK
        subst hsa
        have hzb := F_b.out.lt
        have hzR := F_r.out.lt
        obtain ⟨g0, g1, g2, -⟩ := id F_b.out
        by_cases hb : u < P ∧ v < P
        case neg =>
          have HR2 := Lib.hid (show askS P Q G [] [u, v] = 2 from askS_n HH.out (by simp [okAll]; omega))
          have HF := Lib.hid (HNO.out hb)
          clear hb
          go_wp2_with fail
          clear g0 g1 g2
          refine (echeck_any _ hP hQ hG (ShL.nil _) (ShL.laid _ [u, v] _ _ _ _ _ (by simp) rfl rfl) (by simp) (by simp) HR2.out).mono ?_
          rintro e w3 ⟨rfl, hb3⟩
          have hba := (Below.refl wr.heap.size wr).alloc (Nat.le_refl _) (.cells #[.int .u64 u, .int .u64 v] 26)
          have hbc := hba.alloc hba.size (.cells #[.int .u64 u, .int .u64 v] 22)
          have hbb : Below wr.heap.size wr w3 := hbc.trans (hb3.mono hbc.size)
          clear hba hbc
          replace F_r := Lib.hid (F_r.out.keep hbb)
          replace HBW := Lib.hid (HBW.out.trans (hbb.mono HBW.out.size))
          clear hb3 hbb
          obtain ⟨r0, r1, r2, r3, -⟩ := id F_r.out
          go_wp2_with fail
          exact bodyPost_ret (res_pair rfl (F_r.out.stored 0 0) _ rfl rfl) rfl ⟨rfl, (HBW.out.setCell (by simp <;> omega) _).setCell (by simp <;> omega) _⟩
        case pos =>
          obtain ⟨hu, hv⟩ := hb
          have HR2 := Lib.hid (show askS P Q G [] [u, v] = 0 from askS_ok HH.out (by simp) (by simp; omega))
          go_wp2_with fail
          clear g0 g1 g2
          refine (echeck_any _ hP hQ hG (ShL.nil _) (ShL.laid _ [u, v] _ _ _ _ _ (by simp) rfl rfl) (by simp) (by simp) HR2.out).mono ?_
          rintro e w3 ⟨rfl, hb3⟩
          have hba := (Below.refl wr.heap.size wr).alloc (Nat.le_refl _) (.cells #[.int .u64 u, .int .u64 v] 26)
          have hbc := hba.alloc hba.size (.cells #[.int .u64 u, .int .u64 v] 22)
          have hbb : Below wr.heap.size wr w3 := hbc.trans (hb3.mono hbc.size)
          clear hba hbc
          have F_c := Lib.hid (((Pair.at wr u v 26 wr.heap.size rfl).alloc (.cells #[.int .u64 u, .int .u64 v] 22)).keep hb3)
          replace F_r := Lib.hid (F_r.out.keep hbb)
          replace F_b := Lib.hid (F_b.out.keep hbb)
          replace HE := Lib.hid (HE.out.keep hbb)
          replace HBW := Lib.hid (HBW.out.trans (hbb.mono HBW.out.size))
          have hz3 := hbb.size
          clear hb3 hbb
          obtain ⟨r0, r1, r2, r3, -⟩ := id F_c.out
          go_wp2_with fail
          clear r0 r1 r2 r3
          refine (eadd_any _ HE.out HH.out p0 pP q0 qP hu0 hu hv0 hv rfl rfl).mono ?_
          rintro e w4 ⟨rfl, hE4, hA4⟩
          replace HE := Lib.hid hE4
          replace F_r := Lib.hid (F_r.out.added hA4 (by omega))
          replace F_b := Lib.hid (F_b.out.added hA4 (by omega))
          replace HBW := Lib.hid (HBW.out.trans (hA4.below w.heap.size (by omega) (by omega)))
          clear hE4 hA4
          go_wp2_with fail
          go_roundw
          case rel =>
            refine ⟨k + 1, by omega, by go_num, ⟨⟨_, _, ?_, Int.emod_nonneg _ (by omega), Int.emod_lt_of_pos _ (by omega), Int.emod_nonneg _ (by omega), Int.emod_lt_of_pos _ (by omega), HE.out⟩, F_b.out, F_r.out, HBW.out, ?_⟩⟩
            · rw [HA.out, HPQ.out]; rfl
            · rw [HT.out, HO.out]; simp [hu, hv]
          case measure => simp [intOf]; omega
  · have HR := Lib.hid (show askS P Q G [] [] = 0 from askS_ok hH (by simp) (by simp))
    have hn1 : (n : Int) ≤ 4096 := by omega
    have HH := Lib.hid hH
    have HO4 := Lib.hid ho
    have HV := Lib.hid hxy
    clear hH hn hnl ho hxy
    have hP1 : 1 < P := by have := HH.out.1; omega
    have F_g := Lib.hid (show Boxed ((w.alloc (.cells #[.int .u64 P, .int .u64 Q, .int .u64 G] 24)).alloc (.cells #[.int .u64 0, .int .u64 0] 26)) (w.heap.size) P Q G from (Boxed.at _ P Q G _ (w.heap.size) (by simp)).alloc _)
    have F_r := Lib.hid (show Pair ((w.alloc (.cells #[.int .u64 P, .int .u64 Q, .int .u64 G] 24)).alloc (.cells #[.int .u64 0, .int .u64 0] 26)) (w.heap.size + 1) 0 0 from Pair.at _ 0 0 _ (w.heap.size + 1) (by simp))
    have HBW := Lib.hid (show Below w.heap.size w ((w.alloc (.cells #[.int .u64 P, .int .u64 Q, .int .u64 G] 24)).alloc (.cells #[.int .u64 0, .int .u64 0] 26)) from ((Below.refl _ _).alloc (by simp <;> omega) _).alloc (by simp <;> omega) _)
    go_enter Try.func15, Try.ntmps15
    obtain ⟨x0a, x0b, x0c, -⟩ := id F_g.out
    obtain ⟨x1a, x1b, x1c, x1d, -⟩ := id F_r.out
    go_wp2_with fail
    clear x0a x0b x0c x1a x1b x1c x1d
    refine (echeck_any _ hP hQ hG (ShL.nil _) (ShL.nil _) (by simp) (by simp) HR.out).mono ?_
    rintro e w1 ⟨rfl, hb1⟩
    replace F_g := Lib.hid (F_g.out.keep hb1)
    replace F_r := Lib.hid (F_r.out.keep hb1)
    replace HBW := Lib.hid (HBW.out.trans (hb1.mono HBW.out.size))
    clear hb1
    obtain ⟨x0a, x0b, x0c, -⟩ := id F_g.out
    obtain ⟨x1a, x1b, x1c, x1d, -⟩ := id F_r.out
    go_wp2_with fail
    clear x0a x0b x0c x1a x1b x1c x1d
    have lt1g := F_g.out.lt
    have lt1r := F_r.out.lt
    refine (start_any P Q G w1).mono ?_
    rintro e w2 ⟨rfl, hb2, hg2⟩
    have hz2 := hb2.size
    replace F_g := Lib.hid ((F_g.out.keep hb2).alloc (.cells #[.int .u64 1, .int .u64 1, .func (.func 54) #[] #[.pointer (some ⟨w1.heap.size, 0, none⟩)]] 76))
    replace F_r := Lib.hid ((F_r.out.keep hb2).alloc (.cells #[.int .u64 1, .int .u64 1, .func (.func 54) #[] #[.pointer (some ⟨w1.heap.size, 0, none⟩)]] 76))
    have hbs := HBW.out.size
    replace HBW := Lib.hid ((HBW.out.trans (hb2.mono HBW.out.size)).alloc (by omega) (.cells #[.int .u64 1, .int .u64 1, .func (.func 54) #[] #[.pointer (some ⟨w1.heap.size, 0, none⟩)]] 76))
    have HE := Lib.hid (Eng.new w2 w1.heap.size P Q G hg2)
    have lt2 : w1.heap.size < w2.heap.size := hg2.lt
    clear hb2 hg2
    go_wp2_with fail
    go_loopw [9, 10, 25] (fun c9 c10 c25 wr => ∃ k : Nat, k ≤ n ∧ c25 = .int .i64 k ∧ Hid (SumIn w wr w2.heap.size w1.heap.size w.heap.size (w.heap.size + 1) P Q G ps k)) (fun _ _ c25 _ => n - (intOf c25).toNat)
    case atStart => exact ⟨0, Nat.zero_le _, rfl, ⟨⟨1, 1, rfl, by omega, hP1, by omega, hP1, HE.out⟩, F_g.out, F_r.out, HBW.out, rfl⟩⟩
    case round =>
      clear F_g F_r HBW HE
      obtain ⟨k, hk, rfl, HK⟩ := hrel
      have hln := HS.out.len
      by_cases hlt : k < n
      case neg =>
        have hkn : k = n := by omega
        obtain ⟨p, q, hpq, p0, pP, q0, qP, hE⟩ := HK.out.eng
        have htk : ps.take k = ps := by rw [hkn, hln, List.take_length]
        obtain ⟨rfl, rfl⟩ : p = x ∧ q = y := by rw [htk, HV.out] at hpq; cases hpq; exact ⟨rfl, rfl⟩
        have F_r := Lib.hid HK.out.res
        have HBW := Lib.hid HK.out.bel
        obtain ⟨e0, e1, -, -, -, -, -, -⟩ := hE
        clear hpq htk HK
        have hzr := HBW.out.size
        obtain ⟨r0, r1, r2, r3, -⟩ := id F_r.out
        go_wp2_with fail
        exact bodyPost_ret (res_pair rfl (F_r.out.stored p q) _ rfl rfl) rfl ⟨rfl, (HBW.out.setCell (by simp <;> omega) _).setCell (by simp <;> omega) _⟩
      case pos =>
        obtain ⟨s, o, hsa, hsl, d0, d1⟩ := (HS.out.keep HK.out.bel).at k hlt
        have hsw : s < w.heap.size := by
          rcases HS.out with ⟨h, -⟩ | ⟨s', o', h0, -, h2, -⟩
          · omega
          · rw [h0] at hsa; cases hsa; exact h2
        obtain ⟨u, v, huv⟩ : ∃ u v, ps.getD k (0, 0) = (u, v) := ⟨_, _, rfl⟩
        rw [huv] at d0 d1
        have hkl : k < ps.length := by omega
        have hmem := HN.out _ (mem_getD hkl huv)
        have hu0 : 0 ≤ u := hmem.1
        have hv0 : 0 ≤ v := hmem.2
        have HT := Lib.hid (okS_snoc P ps k u v hkl huv)
        have HA := Lib.hid (allP_snoc P ps k u v hkl huv)
        have HNO := Lib.hid (okS_not P ps k u v hkl huv)
        have hln' := Lib.hid hln
        clear huv hmem hln
        obtain ⟨p, q, hpq, p0, pP, q0, qP, hE⟩ := HK.out.eng
        have HE := Lib.hid hE
        have HPQ := Lib.hid hpq
        clear hE hpq
        have hk0 : (0 : Int) ≤ (k : Int) := by omega
        have hk1 : (k : Int) < (n : Int) := by omega
        have hzr := HK.out.bel.size
        have hzE := HE.out.lt
        have c26 : Try.prog.cellsOf 26 = 2 := by kernel_rfl
        have F_b := Lib.hid HK.out.box
        have F_r := Lib.hid HK.out.res
        have HBW := Lib.hid HK.out.bel
        have HO := Lib.hid HK.out.ok
        clear HK
        subst hsa
        have hzb := F_b.out.lt
        have hzR := F_r.out.lt
        obtain ⟨g0, g1, g2, -⟩ := id F_b.out
        by_cases hb : u < P ∧ v < P
        case neg =>
          have HR2 := Lib.hid (show askS P Q G [] [u, v] = 2 from askS_n HH.out (by simp [okAll]; omega))
          have HF := Lib.hid (HNO.out hb)
          clear hb
          go_wp2_with fail
          clear g0 g1 g2
          refine (echeck_any _ hP hQ hG (ShL.nil _) (ShL.laid _ [u, v] _ _ _ _ _ (by simp) rfl rfl) (by simp) (by simp) HR2.out).mono ?_
          rintro e w3 ⟨rfl, hb3⟩
          have hba := (Below.refl wr.heap.size wr).alloc (Nat.le_refl _) (.cells #[.int .u64 u, .int .u64 v] 26)
          have hbc := hba.alloc hba.size (.cells #[.int .u64 u, .int .u64 v] 22)
          have hbb : Below wr.heap.size wr w3 := hbc.trans (hb3.mono hbc.size)
          clear hba hbc
          replace F_r := Lib.hid (F_r.out.keep hbb)
          replace HBW := Lib.hid (HBW.out.trans (hbb.mono HBW.out.size))
          clear hb3 hbb
          obtain ⟨r0, r1, r2, r3, -⟩ := id F_r.out
          go_wp2_with fail
          have hff := HF.out
          rw [HO4.out] at hff
          cases hff
        case pos =>
          obtain ⟨hu, hv⟩ := hb
          have HR2 := Lib.hid (show askS P Q G [] [u, v] = 0 from askS_ok HH.out (by simp) (by simp; omega))
          go_wp2_with fail
          clear g0 g1 g2
          refine (echeck_any _ hP hQ hG (ShL.nil _) (ShL.laid _ [u, v] _ _ _ _ _ (by simp) rfl rfl) (by simp) (by simp) HR2.out).mono ?_
          rintro e w3 ⟨rfl, hb3⟩
          have hba := (Below.refl wr.heap.size wr).alloc (Nat.le_refl _) (.cells #[.int .u64 u, .int .u64 v] 26)
          have hbc := hba.alloc hba.size (.cells #[.int .u64 u, .int .u64 v] 22)
          have hbb : Below wr.heap.size wr w3 := hbc.trans (hb3.mono hbc.size)
          clear hba hbc
          have F_c := Lib.hid (((Pair.at wr u v 26 wr.heap.size rfl).alloc (.cells #[.int .u64 u, .int .u64 v] 22)).keep hb3)
          replace F_r := Lib.hid (F_r.out.keep hbb)
          replace F_b := Lib.hid (F_b.out.keep hbb)
          replace HE := Lib.hid (HE.out.keep hbb)
          replace HBW := Lib.hid (HBW.out.trans (hbb.mono HBW.out.size))
          have hz3 := hbb.size
          clear hb3 hbb
          obtain ⟨r0, r1, r2, r3, -⟩ := id F_c.out
          go_wp2_with fail
          clear r0 r1 r2 r3
          refine (eadd_any _ HE.out HH.out p0 pP q0 qP hu0 hu hv0 hv rfl rfl).mono ?_
          rintro e w4 ⟨rfl, hE4, hA4⟩
          replace HE := Lib.hid hE4
          replace F_r := Lib.hid (F_r.out.added hA4 (by omega))
          replace F_b := Lib.hid (F_b.out.added hA4 (by omega))
          replace HBW := Lib.hid (HBW.out.trans (hA4.below w.heap.size (by omega) (by omega)))
          clear hE4 hA4
          go_wp2_with fail
          go_roundw
          case rel =>
            refine ⟨k + 1, by omega, by go_num, ⟨⟨_, _, ?_, Int.emod_nonneg _ (by omega), Int.emod_lt_of_pos _ (by omega), Int.emod_nonneg _ (by omega), Int.emod_lt_of_pos _ (by omega), HE.out⟩, F_b.out, F_r.out, HBW.out, ?_⟩⟩
            · rw [HA.out, HPQ.out]; rfl
            · rw [HT.out, HO.out]; simp [hu, hv]
          case measure => simp [intOf]; omega
end Go.Proofs.Ytffefhldfnfohaa
