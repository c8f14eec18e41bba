/- ShamirInterpolates: the statement: for every input the law returns true, and the arguments read as before. -/
import Derived.Test.YtjfaaicbojnpaaaIntp
import Derived.Test.YtjfaaicbojnpaaaChosen
import Derived.Test.YtjfaaicbojnpaaaShJ
import Derived.Test.YtjfaaicbojnpaaaRows
namespace Go.Proofs.Ytjfaaicbojnpaaa.lawInterps
open Go.ChangeShapes Go.WideShapes Go.ChangeAt Go.RowKit Num
set_option linter.unusedSimpArgs false
set_option linter.unusedVariables false

theorem push_ib {w wr w8 : World} {a6 a7 v8 : Value} {is vs : List Int} {x P Q G : Int} {tmp : Obj} (hi : OwnI wr (w.heap.size + 1) a6 is) (hs : OwnU wr (w.heap.size + 1) a7 vs) (hd : Boxed wr w.heap.size P Q G) (hw : Below w.heap.size w wr)
    (hown : w8.ownsRow (w.heap.size + 1) 3 1 v8 (is.length + 1) (is.map (Value.int IntKind.i64) ++ [.int .i64 x])) (hgr : (wr.alloc tmp).grownBy w8 a6.ownBlock) :
    OwnI w8 (w.heap.size + 1) v8 (is ++ [x]) ∧ OwnU w8 (w.heap.size + 1) a7 vs ∧ Boxed w8 w.heap.size P Q G ∧ Below w.heap.size w w8 ∧ w.heap.size + 1 ≤ w8.heap.size := by
  have hlt := hd.lt
  have hi' := hi.keep ((Below.refl _ _).alloc (Nat.le_refl _) tmp)
  have hs' := hs.keep ((Below.refl _ _).alloc (Nat.le_refl _) tmp)
  have hb := Below.row (n := w.heap.size + 1) hgr (fun j hj => (hi.lt j hj).1) (by simp; omega)
  have hz := hb.size
  refine ⟨?_, World.ownsRow.kept hs' hgr (own_diff hi' hs' (show (3 : Nat) ≠ 22 by decide)), (hd.alloc tmp).keepN hb (by omega), (hw.alloc hw.size tmp).trans (hb.mono (by omega)), by simp at hz; omega⟩
  unfold OwnI; rw [List.length_append, List.map_append]; exact hown
theorem push_sb {w wr w8 : World} {a6 a7 v8 : Value} {is vs : List Int} {x P Q G : Int} {tmp : Obj} (hi : OwnI wr (w.heap.size + 1) a6 is) (hs : OwnU wr (w.heap.size + 1) a7 vs) (hd : Boxed wr w.heap.size P Q G) (hw : Below w.heap.size w wr)
    (hown : w8.ownsRow (w.heap.size + 1) 22 1 v8 (vs.length + 1) (vs.map (Value.int IntKind.u64) ++ [.int .u64 x])) (hgr : (wr.alloc tmp).grownBy w8 a7.ownBlock) :
    OwnI w8 (w.heap.size + 1) a6 is ∧ OwnU w8 (w.heap.size + 1) v8 (vs ++ [x]) ∧ Boxed w8 w.heap.size P Q G ∧ Below w.heap.size w w8 ∧ w.heap.size + 1 ≤ w8.heap.size := by
  have hlt := hd.lt
  have hi' := hi.keep ((Below.refl _ _).alloc (Nat.le_refl _) tmp)
  have hs' := hs.keep ((Below.refl _ _).alloc (Nat.le_refl _) tmp)
  have hb := Below.row (n := w.heap.size + 1) hgr (fun j hj => (hs.lt j hj).1) (by simp; omega)
  have hz := hb.size
  refine ⟨World.ownsRow.kept hi' hgr (own_diff hs' hi' (show (22 : Nat) ≠ 3 by decide)), ?_, (hd.alloc tmp).keepN hb (by omega), (hw.alloc hw.size tmp).trans (hb.mono (by omega)), by simp at hz; omega⟩
  unfold OwnU; rw [List.length_append, List.map_append]; exact hown
/-- The numbers from f on, and the values there. -/
def idsF (f k : Nat) : List Int := (List.range k).map fun i => ((f + i : Nat) : Int)
def valsF (Q : Int) (f : Nat) (xs : List Int) (k : Nat) : List Int := (List.range k).map fun i => valS Q ((f + i : Nat) : Int) xs
theorem idsF_snoc (f k : Nat) : idsF f (k + 1) = idsF f k ++ [((f + k : Nat) : Int)] := by rw [idsF, List.range_succ, List.map_append]; rfl
theorem valsF_snoc (Q : Int) (f : Nat) (xs : List Int) (k : Nat) : valsF Q f xs (k + 1) = valsF Q f xs k ++ [valS Q ((f + k : Nat) : Int) xs] := by rw [valsF, List.range_succ, List.map_append]; rfl
theorem idsF_len (f k : Nat) : (idsF f k).length = k := by simp [idsF]
theorem valsF_len (Q : Int) (f : Nat) (xs : List Int) (k : Nat) : (valsF Q f xs k).length = k := by simp [valsF]
theorem idsF_mem {f k : Nat} {x : Int} (h : x ∈ idsF f k) : ∃ i, i < k ∧ x = ((f + i : Nat) : Int) := by
  rw [idsF, List.mem_map] at h
  obtain ⟨i, hi, rfl⟩ := h
  exact ⟨i, List.mem_range.1 hi, rfl⟩
/-- Interpolating a polynomial's values gives the polynomial. -/
theorem interp_law {P Q G : Int} {f : Nat} {xs : List Int} (hV : Valid P Q G) (hb : belowS Q xs = true) (hx : ∀ x, x ∈ xs → U64 x) (hn : ∀ i, i < xs.length → numS Q ((f + i : Nat) : Int) = true) :
    interpS P Q G (idsF f xs.length) (valsF Q f xs xs.length) = (0, xs) := by
  have q2 := hV.2.2.1.1
  obtain ⟨l1, l8, -⟩ := belowS_true hb
  have hxr := belowS_bd hb hx
  have hnum : ∀ x, x ∈ idsF f xs.length → numS Q x = true := fun x h => by
    obtain ⟨i, hi, rfl⟩ := idsF_mem h
    exact hn i hi
  have hli : listS Q 0 (idsF f xs.length) = true := by
    have hi : incS Q (0 - 1) (idsF f xs.length) = true := by
      refine incS_of ?_ (fun x h => ?_)
      · rw [idsF, List.pairwise_map]
        exact List.pairwise_lt_range.imp (fun h => by omega)
      · refine ⟨?_, hnum x h⟩
        have := numS_true (hnum x h)
        omega
    simp [listS, idsF_len, l1, l8]
    exact hi
  have hnd := incS_nodup (listS_true hli).2.2
  have hvr : ∀ x, x ∈ valsF Q f xs xs.length → 0 ≤ x ∧ x < Q := fun x h => by
    rw [valsF, List.mem_map] at h
    obtain ⟨i, -, rfl⟩ := h
    exact valS_range _ (by omega) xs
  have hbv : belowS Q (valsF Q f xs xs.length) = true := by
    simp only [belowS, valsF_len, Bool.and_eq_true, decide_eq_true_eq, okAll, List.all_eq_true]
    exact ⟨⟨l1, l8⟩, fun x h => (hvr x h).2⟩
  have hu : Units Q (idsF f xs.length) := units_prime hV.2.2.1 (fun x h => by
    have := numS_true (hnum x h)
    exact ⟨this.1, this.2.2⟩)
  have hl : (valsF Q f xs xs.length).length = (idsF f xs.length).length := by rw [valsF_len, idsF_len]
  obtain ⟨r, hr⟩ : ∃ r, throughS Q (idsF f xs.length) (valsF Q f xs xs.length) = some r := sumL_ex hu _ _ (fun q hq => (List.of_mem_zip hq).1)
  obtain ⟨h1, h2, h3, -⟩ := through_at (by omega) hnd hl hr
  rw [idsF_len] at h1
  have h6 := uniq (p := r) (q := xs) h1 (by rw [h1, idsF_len]; exact Nat.le_refl _) (units_apart hnd hu) (fun a ha => by
    obtain ⟨k, hk, rfl⟩ := List.mem_iff_getElem.1 ha
    have := h3 k hk
    have hk2 : k < xs.length := by rwa [idsF_len] at hk
    rw [getD_at hk, getD_at (by rw [valsF_len]; exact hk2)] at this
    refine this.trans (Cg.trans (Cg.of_eq ?_) (valS_cg Q _ xs))
    simp [idsF, valsF])
  have he : r = xs := list_eq_of_cg h1 h6 h2 hxr
  have ht := tail_some hr
  rw [he] at ht
  simp only [interpS, hV.1, hli, hl, hbv, if_true, decide_true, Bool.and_self]
  exact ht

set_option maxRecDepth 100000 in
set_option maxHeartbeats 12800000 in
theorem walk (P Q G : Int) (a : Option Addr) (n c : Nat) (xs : List Int) (t : Int) (w : World) (uP : U64 P) (uQ : U64 Q) (uG : U64 G) (hS : ShI .u64 w a n xs) (hx : ∀ x, x ∈ xs → U64 x) (hc : a = none → c = 0) (hd : n ≤ c) (tl : -9223372036854775808 ≤ t) (tu : t ≤ 9223372036854775807) :
    Calls Try.prog 10 #[.agg #[.int .u64 P, .int .u64 Q, .int .u64 G], .slice a n c, .int .i64 t] w fun e w' => e = .returned (.bool true) ∧ Below w.heap.size w w' := by
  have hP := uP.1
  have hQ := uQ.1
  have hG := uG.1
  have HS := Lib.hid hS
  have HX := Lib.hid hx
  have HLN := Lib.hid hS.len
  obtain ⟨co, hv⟩ := ValidS.exists P Q G
  have HV := Lib.hid hv
  clear hS hx
  by_cases hV : Valid P Q G
  case neg =>
    have hcb : (co != 0) = true := by rw [hv.no hV]; decide
    clear hv hV
    have F_g := Lib.hid (show Boxed (w.alloc (.cells #[.int .u64 P, .int .u64 Q, .int .u64 G] 24)) (w.heap.size) P Q G from Boxed.at _ P Q G _ (w.heap.size) (by simp))
    have HBW := Lib.hid (show Below w.heap.size w (w.alloc (.cells #[.int .u64 P, .int .u64 Q, .int .u64 G] 24)) from (Below.refl _ _).alloc (by simp <;> omega) _)
    go_enter Try.func10, Try.ntmps10
    obtain ⟨x0a, x0b, x0c, -⟩ := id F_g.out
    go_wp2_with fail
    clear x0a x0b x0c
    refine (alive_yes _).mono ?_
    rintro e w1 ⟨rfl, hb1⟩
    replace F_g := Lib.hid (F_g.out.keep hb1)
    replace HBW := Lib.hid (HBW.out.trans (hb1.mono HBW.out.size))
    clear hb1
    obtain ⟨x0a, x0b, x0c, -⟩ := id F_g.out
    go_wp2_with fail
    clear x0a x0b x0c
    refine (gcheck_any P Q G _ _ hP hQ hG HV.out).mono ?_
    rintro e w2 ⟨rfl, hb2⟩
    replace F_g := Lib.hid (F_g.out.keep hb2)
    replace HBW := Lib.hid (HBW.out.trans (hb2.mono HBW.out.size))
    clear hb2
    obtain ⟨x0a, x0b, x0c, -⟩ := id F_g.out
    go_wp2_with fail
    go_ret
    exact ⟨rfl, HBW.out⟩
  case pos =>
    obtain rfl := hv.yes hV
    have HVA := Lib.hid hV
    obtain ⟨p5, p3, _, pq, g2, gP⟩ := id hV.1
    have q3 : Q < 1073741824 := by omega
    have q1 : 1 < Q := by omega
    clear hv hV pq
    by_cases g1 : 100 < n
    case pos =>
      have HG1 := Lib.hid (show decide (100 < n) = true by simpa using g1)
      clear g1
      have F_g := Lib.hid (show Boxed (w.alloc (.cells #[.int .u64 P, .int .u64 Q, .int .u64 G] 24)) (w.heap.size) P Q G from Boxed.at _ P Q G _ (w.heap.size) (by simp))
      have HBW := Lib.hid (show Below w.heap.size w (w.alloc (.cells #[.int .u64 P, .int .u64 Q, .int .u64 G] 24)) from (Below.refl _ _).alloc (by simp <;> omega) _)
      go_enter Try.func10, Try.ntmps10
      obtain ⟨x0a, x0b, x0c, -⟩ := id F_g.out
      go_wp2_with fail
      clear x0a x0b x0c
      refine (alive_yes _).mono ?_
      rintro e w1 ⟨rfl, hb1⟩
      replace F_g := Lib.hid (F_g.out.keep hb1)
      replace HBW := Lib.hid (HBW.out.trans (hb1.mono HBW.out.size))
      clear hb1
      obtain ⟨x0a, x0b, x0c, -⟩ := id F_g.out
      go_wp2_with fail
      clear x0a x0b x0c
      refine (gcheck_any P Q G _ _ hP hQ hG HV.out).mono ?_
      rintro e w2 ⟨rfl, hb2⟩
      replace F_g := Lib.hid (F_g.out.keep hb2)
      replace HBW := Lib.hid (HBW.out.trans (hb2.mono HBW.out.size))
      clear hb2
      obtain ⟨x0a, x0b, x0c, -⟩ := id F_g.out
      go_wp2_with fail
      clear x0a x0b x0c
      refine (rgreat34_any _ HG1.out).mono ?_
      rintro e w3 ⟨rfl, rfl⟩
      obtain ⟨x0a, x0b, x0c, -⟩ := id F_g.out
      go_wp2_with fail
      go_ret
      exact ⟨rfl, HBW.out⟩
    case neg =>
      have HG1 := Lib.hid (show decide (100 < n) = false by simpa using g1)
      by_cases h1 : n < 1
      case pos =>
        have d1 : decide ((n : Int) < 1) = true := by simp; omega
        have F_g := Lib.hid (show Boxed (w.alloc (.cells #[.int .u64 P, .int .u64 Q, .int .u64 G] 24)) (w.heap.size) P Q G from Boxed.at _ P Q G _ (w.heap.size) (by simp))
        have HBW := Lib.hid (show Below w.heap.size w (w.alloc (.cells #[.int .u64 P, .int .u64 Q, .int .u64 G] 24)) from (Below.refl _ _).alloc (by simp <;> omega) _)
        go_enter Try.func10, Try.ntmps10
        obtain ⟨x0a, x0b, x0c, -⟩ := id F_g.out
        go_wp2_with fail
        clear x0a x0b x0c
        refine (alive_yes _).mono ?_
        rintro e w1 ⟨rfl, hb1⟩
        replace F_g := Lib.hid (F_g.out.keep hb1)
        replace HBW := Lib.hid (HBW.out.trans (hb1.mono HBW.out.size))
        clear hb1
        obtain ⟨x0a, x0b, x0c, -⟩ := id F_g.out
        go_wp2_with fail
        clear x0a x0b x0c
        refine (gcheck_any P Q G _ _ hP hQ hG HV.out).mono ?_
        rintro e w2 ⟨rfl, hb2⟩
        replace F_g := Lib.hid (F_g.out.keep hb2)
        replace HBW := Lib.hid (HBW.out.trans (hb2.mono HBW.out.size))
        clear hb2
        obtain ⟨x0a, x0b, x0c, -⟩ := id F_g.out
        go_wp2_with fail
        clear x0a x0b x0c
        refine (rgreat34_any _ HG1.out).mono ?_
        rintro e w3 ⟨rfl, rfl⟩
        obtain ⟨x0a, x0b, x0c, -⟩ := id F_g.out
        go_wp2_with fail
        go_ret
        exact ⟨rfl, HBW.out⟩
      case neg =>
        have d1 : decide ((n : Int) < 1) = false := by simp; omega
        by_cases h2 : t < 0
        case pos =>
          have d2 : decide (t < 0) = true := by simpa using h2
          have F_g := Lib.hid (show Boxed (w.alloc (.cells #[.int .u64 P, .int .u64 Q, .int .u64 G] 24)) (w.heap.size) P Q G from Boxed.at _ P Q G _ (w.heap.size) (by simp))
          have HBW := Lib.hid (show Below w.heap.size w (w.alloc (.cells #[.int .u64 P, .int .u64 Q, .int .u64 G] 24)) from (Below.refl _ _).alloc (by simp <;> omega) _)
          go_enter Try.func10, Try.ntmps10
          obtain ⟨x0a, x0b, x0c, -⟩ := id F_g.out
          go_wp2_with fail
          clear x0a x0b x0c
          refine (alive_yes _).mono ?_
          rintro e w1 ⟨rfl, hb1⟩
          replace F_g := Lib.hid (F_g.out.keep hb1)
          replace HBW := Lib.hid (HBW.out.trans (hb1.mono HBW.out.size))
          clear hb1
          obtain ⟨x0a, x0b, x0c, -⟩ := id F_g.out
          go_wp2_with fail
          clear x0a x0b x0c
          refine (gcheck_any P Q G _ _ hP hQ hG HV.out).mono ?_
          rintro e w2 ⟨rfl, hb2⟩
          replace F_g := Lib.hid (F_g.out.keep hb2)
          replace HBW := Lib.hid (HBW.out.trans (hb2.mono HBW.out.size))
          clear hb2
          obtain ⟨x0a, x0b, x0c, -⟩ := id F_g.out
          go_wp2_with fail
          clear x0a x0b x0c
          refine (rgreat34_any _ HG1.out).mono ?_
          rintro e w3 ⟨rfl, rfl⟩
          obtain ⟨x0a, x0b, x0c, -⟩ := id F_g.out
          go_wp2_with fail
          go_ret
          exact ⟨rfl, HBW.out⟩
        case neg =>
          have d2 : decide (t < 0) = false := by simpa using h2
          obtain ⟨f, rfl⟩ : ∃ f : Nat, t = (f : Int) := ⟨t.toNat, by omega⟩
          obtain ⟨sm, hsm⟩ : ∃ z, IntKind.i64.wrap ((f : Int) + (n : Int)) = z := ⟨_, rfl⟩
          by_cases h3 : 9 < sm
          case pos =>
            have d3 : decide ((9 : Int) < sm) = true := by simpa using h3
            clear h3
            have F_g := Lib.hid (show Boxed (w.alloc (.cells #[.int .u64 P, .int .u64 Q, .int .u64 G] 24)) (w.heap.size) P Q G from Boxed.at _ P Q G _ (w.heap.size) (by simp))
            have HBW := Lib.hid (show Below w.heap.size w (w.alloc (.cells #[.int .u64 P, .int .u64 Q, .int .u64 G] 24)) from (Below.refl _ _).alloc (by simp <;> omega) _)
            go_enter Try.func10, Try.ntmps10
            obtain ⟨x0a, x0b, x0c, -⟩ := id F_g.out
            go_wp2_with fail
            clear x0a x0b x0c
            refine (alive_yes _).mono ?_
            rintro e w1 ⟨rfl, hb1⟩
            replace F_g := Lib.hid (F_g.out.keep hb1)
            replace HBW := Lib.hid (HBW.out.trans (hb1.mono HBW.out.size))
            clear hb1
            obtain ⟨x0a, x0b, x0c, -⟩ := id F_g.out
            go_wp2_with fail
            clear x0a x0b x0c
            refine (gcheck_any P Q G _ _ hP hQ hG HV.out).mono ?_
            rintro e w2 ⟨rfl, hb2⟩
            replace F_g := Lib.hid (F_g.out.keep hb2)
            replace HBW := Lib.hid (HBW.out.trans (hb2.mono HBW.out.size))
            clear hb2
            obtain ⟨x0a, x0b, x0c, -⟩ := id F_g.out
            go_wp2_with fail
            clear x0a x0b x0c
            refine (rgreat34_any _ HG1.out).mono ?_
            rintro e w3 ⟨rfl, rfl⟩
            obtain ⟨x0a, x0b, x0c, -⟩ := id F_g.out
            go_wp2_with fail
            go_ret
            exact ⟨rfl, HBW.out⟩
          case neg =>
            have d3 : decide ((9 : Int) < sm) = false := by simpa using h3
            clear h3
            obtain ⟨ii, hii, hiz0, hiz1, hiz2⟩ := info_parts (P := Try.prog) (e := 3) (z := .int .i64 0) (size := 1) (bytes := 8) (by kernel_rfl)
            obtain ⟨ui, hui, huz0, huz1, huz2⟩ := info_parts (P := Try.prog) (e := 22) (z := .int .u64 0) (size := 1) (bytes := 8) (by kernel_rfl)
            have F_g := Lib.hid (show Boxed (w.alloc (.cells #[.int .u64 P, .int .u64 Q, .int .u64 G] 24)) (w.heap.size) P Q G from Boxed.at _ P Q G _ (w.heap.size) (by simp))
            have HBW := Lib.hid (show Below w.heap.size w (w.alloc (.cells #[.int .u64 P, .int .u64 Q, .int .u64 G] 24)) from (Below.refl _ _).alloc (by simp <;> omega) _)
            go_enter Try.func10, Try.ntmps10
            obtain ⟨x0a, x0b, x0c, -⟩ := id F_g.out
            go_wp2_with fail
            clear x0a x0b x0c
            refine (alive_yes _).mono ?_
            rintro e w1 ⟨rfl, hb1⟩
            replace F_g := Lib.hid (F_g.out.keep hb1)
            replace HBW := Lib.hid (HBW.out.trans (hb1.mono HBW.out.size))
            clear hb1
            obtain ⟨x0a, x0b, x0c, -⟩ := id F_g.out
            go_wp2_with fail
            clear x0a x0b x0c
            refine (gcheck_any P Q G _ _ hP hQ hG HV.out).mono ?_
            rintro e w2 ⟨rfl, hb2⟩
            replace F_g := Lib.hid (F_g.out.keep hb2)
            replace HBW := Lib.hid (HBW.out.trans (hb2.mono HBW.out.size))
            clear hb2
            obtain ⟨x0a, x0b, x0c, -⟩ := id F_g.out
            go_wp2_with fail
            clear x0a x0b x0c
            refine (rgreat34_any _ HG1.out).mono ?_
            rintro e w3 ⟨rfl, rfl⟩
            obtain ⟨x0a, x0b, x0c, -⟩ := id F_g.out
            go_wp2_with fail
            clear x0a x0b x0c
            go_loopw [8, 9, 10, 11, 12] (fun c8 c9 c10 c11 c12 wr => ∃ k : Nat, k ≤ n ∧ c10 = .int .i64 k ∧ ∃ (oa ob : Option Addr) (ca cb : Nat), c8 = .slice oa (idsF f k).length ca ∧ c9 = .slice ob (valsF Q f xs k).length cb ∧ Hid (∀ i, i < k → (belowS Q xs && numS Q ((f + i : Nat) : Int)) = true) ∧ Hid (OwnI wr (w.heap.size + 1) (.slice oa (idsF f k).length ca) (idsF f k)) ∧ Hid (OwnU wr (w.heap.size + 1) (.slice ob (valsF Q f xs k).length cb) (valsF Q f xs k)) ∧ Hid (Boxed wr w.heap.size P Q G) ∧ Hid (Below w.heap.size w wr)) (fun _ _ c10 _ _ _ => n - (intOf c10).toNat)
            case atStart => exact ⟨0, Nat.zero_le _, rfl, none, none, 0, 0, rfl, rfl, (fun i hi => by omega), OwnI.nil _ _, OwnU.nil _ _, F_g.out, HBW.out⟩
            case round =>
              clear F_g HBW
              obtain ⟨k, hk, rfl, oa, ob, ca, cb, rfl, rfl, HNU, F_i, F_s, F_g, HBW⟩ := hrel
              have hgl := F_g.out.lt
              by_cases hlt : k < n
              case neg =>
                obtain rfl : k = n := by omega
                have HBL := Lib.hid (show belowS Q xs = true by have := HNU.out 0 (by omega); rw [Bool.and_eq_true] at this; exact this.1)
                have HNS := Lib.hid (show ∀ i, i < k → numS Q ((f + i : Nat) : Int) = true from fun i hi => by have := HNU.out i hi; rw [Bool.and_eq_true] at this; exact this.2)
                have hf8 : f ≤ 8 := by have := numS_true (HNS.out 0 (by omega)); omega
                have hk8 : k ≤ 8 := by have := (belowS_true HBL.out).2.1; rw [← HLN.out] at this; exact this
                have HIN := Lib.hid (show interpS P Q G (idsF f k) (valsF Q f xs k) = (0, xs) by
                  rw [HLN.out]; exact interp_law HVA.out HBL.out HX.out (by rw [← HLN.out]; exact HNS.out))
                obtain ⟨ia, ic, hie, hish⟩ := F_i.out.shI
                obtain ⟨ua, uc, hue, hush⟩ := F_s.out.shI
                injection hie with e1 e2 e3
                injection hue with e4 e5 e6
                subst e1 e3 e4 e6
                have HISH := Lib.hid hish
                have HUSH := Lib.hid hush
                have HIB := Lib.hid (show ∀ x, x ∈ idsF f k → I64 x from fun x hx => by
                  obtain ⟨i, hi, rfl⟩ := idsF_mem hx
                  constructor <;> omega)
                have HUB := Lib.hid (show ∀ x, x ∈ valsF Q f xs k → U64 x from fun x hx => by
                  rw [valsF, List.mem_map] at hx
                  obtain ⟨i, -, rfl⟩ := hx
                  have := valS_range (Q := Q) ((f + i : Nat) : Int) (by omega) xs
                  constructor <;> omega)
                have il8 : (idsF f k).length ≤ 9 := by rw [idsF_len]; omega
                have vl8 : (valsF Q f xs k).length ≤ 9 := by rw [valsF_len]; omega
                clear hish hush e2 e5
                obtain ⟨x0a, x0b, x0c, -⟩ := id F_g.out
                go_wp2_with fail
                clear x0a x0b x0c
                refine (sinterp_any _ hP hQ hG HISH.out (by omega) HIB.out HUSH.out (by omega) HUB.out HIN.out).mono ?_
                rintro e w7 ⟨v7, rfl, ho7, hb7⟩
                obtain ⟨ra, rc, rfl, hs7⟩ := ho7.shI
                have F_r := Lib.hid hs7
                replace HBW := Lib.hid (HBW.out.trans (hb7.mono HBW.out.size))
                clear ho7 hs7 hb7
                rw [← HLN.out] at F_r ⊢
                go_wp2_with fail
                refine (are_yes _ F_r.out (HS.out.keep HBW.out) (by omega)).mono ?_
                rintro e w8 ⟨rfl, hb8⟩
                replace HBW := Lib.hid (HBW.out.trans (hb8.mono HBW.out.size))
                clear hb8
                go_wp2_with fail
                go_ret
                exact ⟨rfl, HBW.out⟩
              case pos =>
                have hk0 : (0 : Int) ≤ (k : Int) := by omega
                have hk1 : (k : Int) < (n : Int) := by omega
                have hfk : (f : Int) + (k : Int) ≤ 9223372036854775807 := by
                  by_cases hk00 : k = 0
                  · omega
                  · have := HNU.out 0 (by omega)
                    rw [Bool.and_eq_true] at this
                    have := numS_true this.2
                    omega
                obtain ⟨e, he⟩ : ∃ e, f + k = e := ⟨_, rfl⟩
                have hwf : IntKind.i64.wrap ((f : Int) + (k : Int)) = (e : Int) := by rw [IntWalk.i64_in _ (by omega)]; omega
                have hwk : IntKind.i64.wrap ((k : Int) + 1) = (k : Int) + 1 := IntWalk.i64_in _ (by omega)
                have he9 : (e : Int) ≤ 9223372036854775807 := by omega
                have HE := Lib.hid he
                clear he
                cases hb : (belowS Q xs && numS Q (e : Int)) with
                | false =>
                  have HVL := Lib.hid (show valueS P Q G (e : Int) xs = (0, 2) by simp only [valueS, HVA.out.1, hb, if_true]; rfl)
                  clear hb
                  obtain ⟨x0a, x0b, x0c, -⟩ := id F_g.out
                  go_wp2_with fail
                  clear x0a x0b x0c
                  refine (sValue_any _ hP hQ hG (by omega) (by omega) (HS.out.keep HBW.out) (by omega) HX.out HVL.out).mono ?_
                  rintro e2 w7 ⟨rfl, hb7⟩
                  replace HBW := Lib.hid (HBW.out.trans (hb7.mono HBW.out.size))
                  clear hb7
                  go_wp2_with fail
                  go_ret
                  exact ⟨rfl, HBW.out⟩
                | true =>
                  obtain ⟨y, hy⟩ : ∃ y, valS Q (e : Int) xs = y := ⟨_, rfl⟩
                  have HVL := Lib.hid (show valueS P Q G (e : Int) xs = (y, 0) by simp only [valueS, HVA.out.1, hb, if_true, hy])
                  have HE1 := Lib.hid (show idsF f (k + 1) = idsF f k ++ [(e : Int)] by rw [idsF_snoc, HE.out])
                  have HE2 := Lib.hid (show valsF Q f xs (k + 1) = valsF Q f xs k ++ [y] by rw [valsF_snoc, HE.out, hy])
                  have HNU2 := Lib.hid (show ∀ i, i < k + 1 → (belowS Q xs && numS Q ((f + i : Nat) : Int)) = true from fun i hi => by
                    by_cases hik : i < k
                    · exact HNU.out i hik
                    · rw [show i = k by omega, HE.out]; exact hb)
                  have HLI := Lib.hid (show (idsF f k).length ≤ 100 by rw [idsF_len]; omega)
                  have HLV := Lib.hid (show (valsF Q f xs k).length ≤ 100 by rw [valsF_len]; omega)
                  clear hb hy
                  obtain ⟨x0a, x0b, x0c, -⟩ := id F_g.out
                  go_wp2_with fail
                  clear x0a x0b x0c
                  refine (sValue_any _ hP hQ hG (by omega) (by omega) (HS.out.keep HBW.out) (by omega) HX.out HVL.out).mono ?_
                  rintro e2 w7 ⟨rfl, hb7⟩
                  replace F_g := Lib.hid (F_g.out.keep hb7)
                  replace F_i := Lib.hid (F_i.out.keep hb7)
                  replace F_s := Lib.hid (F_s.out.keep hb7)
                  replace HBW := Lib.hid (HBW.out.trans (hb7.mono HBW.out.size))
                  have hgl7 := F_g.out.lt
                  clear hb7
                  go_wp2_with (first | (at_builtin; refine wpList_append_own _ rfl _ _ 51 rfl (w.heap.size + 1) 3 ii (.int .i64 0) 1 8 Try.underlying51 hii hiz0 hiz1 hiz2 rfl (by decide) _ (idsF f k).length ((idsF f k).map (Value.int IntKind.i64)) rfl (F_i.out.keep ((Below.refl _ _).alloc (Nat.le_refl _) _)) _ 1 1 [.int .i64 (e : Int)] rfl rfl (cell_one_new _ _ _) (by simp [Value.oneCell']) (by have := HLI.out; unfold maxLen; omega) (by have := HLI.out; omega) (by simp; omega) ?_; intro v8 w8 hown hgr hnil; have H8 := Lib.hid (push_ib F_i.out F_s.out F_g.out HBW.out hown hgr); have hz8 := H8.out.2.2.2.2; clear hown hgr hnil) | (at_builtin; refine wpList_append_own _ rfl _ _ 25 rfl (w.heap.size + 1) 22 ui (.int .u64 0) 1 8 Try.underlying25 hui huz0 huz1 huz2 rfl (by decide) _ (valsF Q f xs k).length ((valsF Q f xs k).map (Value.int IntKind.u64)) rfl (H8.out.2.1.keep ((Below.refl _ _).alloc (Nat.le_refl _) _)) _ 1 1 [.int .u64 y] rfl rfl (cell_one_new _ _ _) (by simp [Value.oneCell']) (by have := HLV.out; unfold maxLen; omega) (by have := HLV.out; omega) (by simp; omega) ?_; intro v9 w9 hown hgr hnil; have H9 := Lib.hid (push_sb H8.out.1 H8.out.2.1 H8.out.2.2.1 H8.out.2.2.2.1 hown hgr); clear hown hgr hnil))
                  obtain ⟨oa', ca', rfl⟩ := H9.out.1.sl
                  obtain ⟨ob', cb', rfl⟩ := H9.out.2.1.sl
                  go_roundw
                  case rel =>
                    refine ⟨k + 1, by omega, by go_num, oa', ob', ca', cb', ?_⟩
                    rw [HE1.out, HE2.out]
                    exact ⟨rfl, rfl, HNU2.out, H9.out.1, H9.out.2.1, H9.out.2.2.1, H9.out.2.2.2.1⟩
                  case measure => simp [intOf]; omega


set_option maxRecDepth 100000 in
theorem lifted (os : Os) (started : os.Started) (H : Type) (enc : TypeId × Value → H) :
    ReturnsInHanded {} Try.checked os 10 .any (Rows.shamirInterpolatesSpec.pre6 enc Try.prog Try.f10 Rows.shamirInterpolatesRow.domain false) (Rows.shamirInterpolatesSpec.post enc Try.prog Try.f10 false true false false) := by
  refine returnsInHanded_of_change (C := Try.checked) own started (by kernel_rfl) Try.func10
    (ChangeSpec.witness6 (enc := enc) (C := Try.checked) false ⟨#[], #[.agg #[.int .u64 0, .int .u64 0, .int .u64 0], .slice none 0 0, .int .i64 0], []⟩ 8 (by kernel_rfl) (by kernel_rfl) (by kernel_rfl) (by kernel_rfl)) ?_
  intro W base args ds gs before hval0 hW _ _
  have hval : ∀ (j : Nat) t v, Try.f10.params[j]? = some t → args[j]? = some v → Value.okWide Try.prog W .any base t v := hval0
  have hW' := hW
  obtain ⟨p, q, hA0, hV, rfl, hfz, hnd⟩ := hW
  have hA : DataW.TrodAll enc Try.prog W 0 (fun _ => true) true Try.f10.params.toList args.toList ds p := hA0
  rw [Try.params10] at hA hval
  have hK := hA
  obtain ⟨v0, vs0, d0, ds0, p0, q0, hargs, rfl, rfl, h0, r0⟩ := trodAll_cons hA
  obtain ⟨v1, vs1, d1, ds1, p1, q1, rfl, rfl, rfl, h1, r1⟩ := trodAll_cons r0
  obtain ⟨v2, vs2, d2, ds2, p2, q2, rfl, rfl, rfl, h2, r2⟩ := trodAll_cons r1
  obtain ⟨rfl, rfl, rfl⟩ := trodAll_nil r2
  obtain rfl : args = #[v0, v1, v2] := by cases args; simp_all
  obtain ⟨rfl, rfl⟩ := trodVars_none hV
  obtain ⟨P, Q, G, rfl, uP, uQ, uG⟩ := open_group (hval 0 24 v0 rfl rfl) h0
  obtain ⟨a, n, c, xs, rfl, hS, hx, hc, hd⟩ := open_u64s (hval 1 25 v1 rfl rfl) h1
  obtain ⟨t, rfl, tl, tu⟩ := open_i64 (hval 2 3 v2 rfl rfl) h2
  clear hA0 hval0
  refine (walk P Q G a n c xs t W uP uQ uG hS hx hc hd tl tu).mono fun e W' ⟨he, bel⟩ => ?_
  subst he
  exact ⟨_, rfl, _, _, _, [], _, [], hW', trodAll_mk1 (shut_bool Try.underlying4 _), trodAll_stays laidOut (by kernel_rfl) hK bel, rfl, bel.frame _, fun h => by cases h⟩

theorem over : Rows.shamirInterpolatesRow.holds Try.pinned (OpenSpec.ofChange Rows.shamirInterpolatesSpec) :=
  OpenClaim.holds_of_wide 10 Try.f10 rfl rfl rfl rfl rfl rfl rfl ⟨rfl, rfl, rfl, rfl, rfl⟩ rfl rfl rfl rfl rfl (by kernel_rfl) Try.func10 (by kernel_rfl)
    (of_decide_eq_true (by kernel_rfl)) (by unfold Func.isWrapper; first | (rw [if_pos (by decide +kernel)]; kernel_rfl) | (rw [if_neg (by decide +kernel)]; exact ⟨rfl, rfl⟩))
    (fun os started H enc _ => lifted os started H enc)

theorem proved : Rows.ShamirInterpolatesSaid := over
#print axioms proved
end Go.Proofs.Ytjfaaicbojnpaaa.lawInterps
