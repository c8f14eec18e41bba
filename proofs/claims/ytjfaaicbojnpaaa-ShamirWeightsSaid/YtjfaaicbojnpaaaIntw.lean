/- The reference's Interpolate. -/
import Derived.Test.YtjfaaicbojnpaaaIntr
namespace Go.Proofs.Ytjfaaicbojnpaaa
open Go.RowKit Num
set_option linter.unusedSimpArgs false
set_option linter.unusedVariables false

set_option maxRecDepth 100000 in
set_option maxHeartbeats 8000000 in
theorem rinterp_any {P Q G er : Int} {a b : Option Addr} {n c m d : Nat} {ids vs rs : List Int} (w : World) (hP : 0 ≤ P) (hQ : 0 ≤ Q) (hG : 0 ≤ G) (h : ShI .i64 w a n ids) (hn : n ≤ 1000000) (hx : ∀ x, x ∈ ids → I64 x) (ht : ShI .u64 w b m vs) (hm : m ≤ 1000000) (hu : ∀ x, x ∈ vs → U64 x) (hr : interpS P Q G ids vs = (er, rs)) :
    Calls Try.prog 36 #[.agg #[.int .u64 P, .int .u64 Q, .int .u64 G], .slice a n c, .slice b m d] w (RetRow w er rs) := by
  have HS := Lib.hid h
  have HX := Lib.hid hx
  have HT := Lib.hid ht
  have HL1 := Lib.hid h.len
  have HL2 := Lib.hid ht.len
  clear hx
  by_cases hH : Has P Q G
  case neg =>
    obtain ⟨rfl, rfl⟩ := Prod.mk.inj (show (300, []) = (er, rs) by rw [← hr]; simp [interpS, hH])
    have HA := Lib.hid (askS_no (es := []) (ns := []) hH)
    have HH := Lib.hid hH
    clear hr hH h hu ht
    have F_g := Lib.hid (show Boxed (w.alloc (.cells #[.int .u64 P, .int .u64 Q, .int .u64 G] 24)) (w.heap.size) P Q G from Boxed.at _ P Q G _ (w.heap.size) (by simp))
    have HBW := Lib.hid (show Below w.heap.size w (w.alloc (.cells #[.int .u64 P, .int .u64 Q, .int .u64 G] 24)) from (Below.refl _ _).alloc (by simp <;> omega) _)
    go_enter Try.func36, Try.ntmps36
    obtain ⟨x0a, x0b, x0c, -⟩ := id F_g.out
    go_wp2_with fail
    clear x0a x0b x0c
    refine (rAsked_any _ hP hQ hG (ShL.nil _) (ShL.nil _) (by simp) (by simp) HA.out).mono ?_
    rintro e w1 ⟨rfl, hb1⟩
    replace F_g := Lib.hid (F_g.out.keep hb1)
    replace HBW := Lib.hid (HBW.out.trans (hb1.mono HBW.out.size))
    clear hb1
    obtain ⟨x0a, x0b, x0c, -⟩ := id F_g.out
    go_wp2_with fail
    go_ret2
    exact ⟨_, rfl, OwnU.nil _ _, HBW.out⟩
  case pos =>
    have HA := Lib.hid (askS_ok (es := []) (ns := []) hH (by simp) (by simp))
    obtain ⟨p5, p3, hQ', pq, g2, gP⟩ := id hH
    have q3 : Q < 1073741824 := by omega
    have q1 : 1 < Q := by omega
    have HH := Lib.hid hH
    clear pq
    cases hl : listS Q 0 ids
    case false =>
      obtain ⟨rfl, rfl⟩ := Prod.mk.inj (show (2, []) = (er, rs) by rw [← hr]; simp [interpS, hH, hl])
      have HL := Lib.hid hl
      clear hr hl hH h hu ht
      have F_g := Lib.hid (show Boxed (w.alloc (.cells #[.int .u64 P, .int .u64 Q, .int .u64 G] 24)) (w.heap.size) P Q G from Boxed.at _ P Q G _ (w.heap.size) (by simp))
      have HBW := Lib.hid (show Below w.heap.size w (w.alloc (.cells #[.int .u64 P, .int .u64 Q, .int .u64 G] 24)) from (Below.refl _ _).alloc (by simp <;> omega) _)
      go_enter Try.func36, Try.ntmps36
      obtain ⟨x0a, x0b, x0c, -⟩ := id F_g.out
      go_wp2_with fail
      clear x0a x0b x0c
      refine (rAsked_any _ hP hQ hG (ShL.nil _) (ShL.nil _) (by simp) (by simp) HA.out).mono ?_
      rintro e w1 ⟨rfl, hb1⟩
      replace F_g := Lib.hid (F_g.out.keep hb1)
      replace HBW := Lib.hid (HBW.out.trans (hb1.mono HBW.out.size))
      clear hb1
      obtain ⟨x0a, x0b, x0c, -⟩ := id F_g.out
      go_wp2_with fail
      clear x0a x0b x0c
      refine (rlisted_any _ (by omega) (by omega) (HS.out.keep HBW.out) hn HX.out HL.out).mono ?_
      rintro e w2 ⟨rfl, hb2⟩
      replace F_g := Lib.hid (F_g.out.keep hb2)
      replace HBW := Lib.hid (HBW.out.trans (hb2.mono HBW.out.size))
      clear hb2
      obtain ⟨x0a, x0b, x0c, -⟩ := id F_g.out
      go_wp2_with fail
      go_ret2
      exact ⟨_, rfl, OwnU.nil _ _, HBW.out⟩
    case true =>
      have HL := Lib.hid hl
      by_cases hmn : m = n
      case neg =>
        have hln : ¬ vs.length = ids.length := by rw [← HL1.out, ← HL2.out]; exact hmn
        obtain ⟨rfl, rfl⟩ := Prod.mk.inj (show (2, []) = (er, rs) by rw [← hr]; simp [interpS, hH, hl, hln])
        have dm : ((m : Int) != (n : Int)) = true := by simp; omega
        have dmn : (m != n) = true := by simpa using hmn
        clear hr hl hH hln hmn h hu ht
        have F_g := Lib.hid (show Boxed (w.alloc (.cells #[.int .u64 P, .int .u64 Q, .int .u64 G] 24)) (w.heap.size) P Q G from Boxed.at _ P Q G _ (w.heap.size) (by simp))
        have HBW := Lib.hid (show Below w.heap.size w (w.alloc (.cells #[.int .u64 P, .int .u64 Q, .int .u64 G] 24)) from (Below.refl _ _).alloc (by simp <;> omega) _)
        go_enter Try.func36, Try.ntmps36
        obtain ⟨x0a, x0b, x0c, -⟩ := id F_g.out
        go_wp2_with fail
        clear x0a x0b x0c
        refine (rAsked_any _ hP hQ hG (ShL.nil _) (ShL.nil _) (by simp) (by simp) HA.out).mono ?_
        rintro e w1 ⟨rfl, hb1⟩
        replace F_g := Lib.hid (F_g.out.keep hb1)
        replace HBW := Lib.hid (HBW.out.trans (hb1.mono HBW.out.size))
        clear hb1
        obtain ⟨x0a, x0b, x0c, -⟩ := id F_g.out
        go_wp2_with fail
        clear x0a x0b x0c
        refine (rlisted_any _ (by omega) (by omega) (HS.out.keep HBW.out) hn HX.out HL.out).mono ?_
        rintro e w2 ⟨rfl, hb2⟩
        replace F_g := Lib.hid (F_g.out.keep hb2)
        replace HBW := Lib.hid (HBW.out.trans (hb2.mono HBW.out.size))
        clear hb2
        obtain ⟨x0a, x0b, x0c, -⟩ := id F_g.out
        go_wp2_with fail
        go_ret2
        exact ⟨_, rfl, OwnU.nil _ _, HBW.out⟩
      case pos =>
        have hln : vs.length = ids.length := by rw [← HL1.out, ← HL2.out]; exact hmn
        have hnm := hmn.symm
        clear hmn
        subst hnm
        cases hb : belowS Q vs
        case false =>
          obtain ⟨rfl, rfl⟩ := Prod.mk.inj (show (2, []) = (er, rs) by rw [← hr]; simp [interpS, hH, hl, hln, hb])
          have HB := Lib.hid hb
          clear hr hl hH hln hb h hu ht
          have F_g := Lib.hid (show Boxed (w.alloc (.cells #[.int .u64 P, .int .u64 Q, .int .u64 G] 24)) (w.heap.size) P Q G from Boxed.at _ P Q G _ (w.heap.size) (by simp))
          have HBW := Lib.hid (show Below w.heap.size w (w.alloc (.cells #[.int .u64 P, .int .u64 Q, .int .u64 G] 24)) from (Below.refl _ _).alloc (by simp <;> omega) _)
          go_enter Try.func36, Try.ntmps36
          obtain ⟨x0a, x0b, x0c, -⟩ := id F_g.out
          go_wp2_with fail
          clear x0a x0b x0c
          refine (rAsked_any _ hP hQ hG (ShL.nil _) (ShL.nil _) (by simp) (by simp) HA.out).mono ?_
          rintro e w1 ⟨rfl, hb1⟩
          replace F_g := Lib.hid (F_g.out.keep hb1)
          replace HBW := Lib.hid (HBW.out.trans (hb1.mono HBW.out.size))
          clear hb1
          obtain ⟨x0a, x0b, x0c, -⟩ := id F_g.out
          go_wp2_with fail
          clear x0a x0b x0c
          refine (rlisted_any _ (by omega) (by omega) (HS.out.keep HBW.out) hn HX.out HL.out).mono ?_
          rintro e w2 ⟨rfl, hb2⟩
          replace F_g := Lib.hid (F_g.out.keep hb2)
          replace HBW := Lib.hid (HBW.out.trans (hb2.mono HBW.out.size))
          clear hb2
          obtain ⟨x0a, x0b, x0c, -⟩ := id F_g.out
          go_wp2_with fail
          clear x0a x0b x0c
          refine (rbelow_any _ (HT.out.keep HBW.out) hm HB.out).mono ?_
          rintro e w3 ⟨rfl, rfl⟩
          obtain ⟨x0a, x0b, x0c, -⟩ := id F_g.out
          go_wp2_with fail
          go_ret2
          exact ⟨_, rfl, OwnU.nil _ _, HBW.out⟩
        case true =>
          have HW := Lib.hid (show tailS Q ids vs = (er, rs) by rw [← hr]; simp [interpS, hH, hl, hln, hb])
          have HB := Lib.hid hb
          obtain ⟨l1, l8, hinc⟩ := listS_true hl
          have HND := Lib.hid (incS_nodup hinc)
          have HBD := Lib.hid (list_bd hl)
          have HVR := Lib.hid (belowS_bd hb hu)
          have hm1 : 1 ≤ n := by have := HL1.out; omega
          have hn8 : n ≤ 8 := by have := HL1.out; omega
          obtain ⟨s, o, rfl, -, hs, hcell⟩ := shI_some h hm1
          have HC := Lib.hid hcell
          obtain ⟨s2, o2, rfl, -, hs2, hcell2⟩ := shI_some ht hm1
          have HC2 := Lib.hid hcell2
          clear hr hl hH hln hb h hu ht hcell hcell2 hinc l1 l8
          have F_g := Lib.hid (show Boxed (w.alloc (.cells #[.int .u64 P, .int .u64 Q, .int .u64 G] 24)) (w.heap.size) P Q G from Boxed.at _ P Q G _ (w.heap.size) (by simp))
          have HBW := Lib.hid (show Below w.heap.size w (w.alloc (.cells #[.int .u64 P, .int .u64 Q, .int .u64 G] 24)) from (Below.refl _ _).alloc (by simp <;> omega) _)
          go_enter Try.func36, Try.ntmps36
          obtain ⟨x0a, x0b, x0c, -⟩ := id F_g.out
          go_wp2_with fail
          clear x0a x0b x0c
          refine (rAsked_any _ hP hQ hG (ShL.nil _) (ShL.nil _) (by simp) (by simp) HA.out).mono ?_
          rintro e w1 ⟨rfl, hb1⟩
          replace F_g := Lib.hid (F_g.out.keep hb1)
          replace HBW := Lib.hid (HBW.out.trans (hb1.mono HBW.out.size))
          clear hb1
          obtain ⟨x0a, x0b, x0c, -⟩ := id F_g.out
          go_wp2_with fail
          clear x0a x0b x0c
          refine (rlisted_any _ (by omega) (by omega) (HS.out.keep HBW.out) hn HX.out HL.out).mono ?_
          rintro e w2 ⟨rfl, hb2⟩
          replace F_g := Lib.hid (F_g.out.keep hb2)
          replace HBW := Lib.hid (HBW.out.trans (hb2.mono HBW.out.size))
          clear hb2
          obtain ⟨x0a, x0b, x0c, -⟩ := id F_g.out
          go_wp2_with fail
          clear x0a x0b x0c
          refine (rbelow_any _ (HT.out.keep HBW.out) hm HB.out).mono ?_
          rintro e w3 ⟨rfl, rfl⟩
          obtain ⟨x0a, x0b, x0c, -⟩ := id F_g.out
          go_wp2_with fail
          clear x0a x0b x0c
          refine (rthrough_any _ HH.out hm1 HL1.out HL2.out hn8 (Nat.lt_of_lt_of_le hs HBW.out.size) (fun i hi => (HBW.out.cell (p := ⟨s, o + i, none⟩) hs).trans (HC.out i hi)) HBD.out HND.out (Nat.lt_of_lt_of_le hs2 HBW.out.size) (fun i hi => (HBW.out.cell (p := ⟨s2, o2 + i, none⟩) hs2).trans (HC2.out i hi)) HVR.out).mono ?_
          rintro e w5 ⟨v0, rfl, ho5, hb5⟩
          have HO := Lib.hid (ho5.mono HBW.out.size)
          replace F_g := Lib.hid (F_g.out.keep hb5)
          replace HBW := Lib.hid (HBW.out.trans (hb5.mono HBW.out.size))
          clear hb5 ho5
          cases ht : throughS Q ids vs with
          | none =>
            obtain ⟨rfl, rfl⟩ := Prod.mk.inj (show (6, []) = (er, rs) by rw [← HW.out]; exact (tail_none ht).symm)
            rw [ht] at HO
            obtain ⟨oa, oc, rfl⟩ := HO.out.sl
            clear ht
            go_wp2_with fail
            go_ret2
            exact ⟨_, rfl, OwnU.nil _ _, HBW.out⟩
          | some rr =>
            obtain ⟨rfl, rfl⟩ := Prod.mk.inj (show (0, rr) = (er, rs) by rw [← HW.out]; exact (tail_some ht).symm)
            rw [ht] at HO
            obtain ⟨oa, oc, rfl⟩ := HO.out.sl
            clear ht
            go_wp2_with fail
            go_ret2
            exact ⟨_, rfl, HO.out, HBW.out⟩

end Go.Proofs.Ytjfaaicbojnpaaa
