/- shamir.Value, Key, Verify; the reference's likewise. -/
import Derived.Test.YtjfaaicbojnpaaaVal
import Derived.Test.YtjfaaicbojnpaaaShaT
namespace Go.Proofs.Ytjfaaicbojnpaaa
open Go.RowKit Num
set_option linter.unusedSimpArgs false
set_option linter.unusedVariables false

theorem belowS_true {L : Int} {xs : List Int} (h : belowS L xs = true) : 1 ≤ xs.length ∧ xs.length ≤ 8 ∧ ∀ x, x ∈ xs → x < L := by
  simp only [belowS, Bool.and_eq_true, decide_eq_true_eq, okAll, List.all_eq_true] at h
  exact ⟨h.1.1, h.1.2, h.2⟩
theorem numS_true {Q i : Int} (h : numS Q i = true) : 0 ≤ i ∧ i ≤ 8 ∧ i < Q := by
  simp only [numS, Bool.and_eq_true, decide_eq_true_eq] at h
  exact ⟨h.1.1, h.1.2, h.2⟩
theorem belowS_bd {L : Int} {xs : List Int} (h : belowS L xs = true) (hx : ∀ x, x ∈ xs → U64 x) : ∀ x, x ∈ xs → 0 ≤ x ∧ x < L := fun x hm => ⟨(hx x hm).1, (belowS_true h).2.2 x hm⟩
/-- The value of the reference is that of Horner's rule. -/
theorem powm_step (i : Int) (k : Nat) (Q : Int) (h0 : 0 ≤ i) (h1 : i < Q) : powm i ((k + 1 : Nat) : Int) Q = powm i k Q * i % Q := by
  rw [Int.natCast_add, powm_add i Q (by omega) (by omega)]
  show powm i k Q * powm i 1 Q % Q = _
  rw [powm_one h0 h1]
/-- The value of the reference, congruent. -/
theorem at_cg {Q i : Int} (xs : List Int) : ∀ k, k ≤ xs.length → Cg Q (atS Q i xs k) (pv i (xs.take k))
  | 0, _ => Cg.refl _ _
  | k + 1, hk => by
    have ih := at_cg (Q := Q) (i := i) xs k (by omega)
    have hlt : k < xs.length := by omega
    rw [List.take_succ_eq_append_getElem hlt, pv_append]
    show Cg Q ((atS Q i xs k + xs.getD k 0 * powm i k Q % Q) % Q) _
    refine (cg_emod _ _).trans (ih.add ((cg_emod _ _).trans ?_))
    have e : (xs.take k).length = k := by rw [List.length_take]; omega
    have e2 : xs.getD k 0 = xs[k] := by rw [List.getD_eq_getElem?_getD, List.getElem?_eq_getElem hlt]; rfl
    rw [e, e2]
    show Cg Q _ (i ^ k * (xs[k] + i * 0))
    rw [Int.mul_zero, Int.add_zero, Int.mul_comm]
    exact Cg.mul_right _ (powm_cg i k Q)
theorem at_val {Q i : Int} (hQ : 0 < Q) (xs : List Int) : atS Q i xs xs.length = valS Q i xs := by
  have h := at_cg (Q := Q) (i := i) xs xs.length (Nat.le_refl _)
  rw [List.take_length] at h
  exact (h.trans (valS_cg Q i xs).symm).eq (atS_range hQ xs _).1 (atS_range hQ xs _).2 (valS_range i hQ xs).1 (valS_range i hQ xs).2
theorem rat_val {P Q G i v : Int} {a : Option Addr} {n c : Nat} {xs : List Int} (w : World) (hH : Has P Q G) (hi0 : 0 ≤ i) (hiQ : i < Q) (h : ShI .u64 w a n xs) (hn : n ≤ 1000) (hx : ∀ x, x ∈ xs → 0 ≤ x ∧ x < Q) (hv : valS Q i xs = v) :
    Calls Try.prog 62 #[.agg #[.int .u64 P, .int .u64 Q, .int .u64 G], .slice a n c, .int .i64 i] w fun e w' => e = .returned (.int .u64 v) ∧ Below w.heap.size w w' :=
  rat_any w hH hi0 hiQ h hn hx (by rw [h.len, at_val (by omega)]; exact hv)

def valueS (P Q G i : Int) (xs : List Int) : Int × Int := if Has P Q G then (if belowS Q xs && numS Q i then (valS Q i xs, 0) else (0, 2)) else (0, 300)
def keyS (P Q G i : Int) (xs : List Int) : Int × Int := if Has P Q G then (if belowS P xs && numS Q i then (keyOfS P Q i xs xs.length, 0) else (0, 2)) else (0, 300)
def verifyS (P Q G i s : Int) (xs : List Int) : Bool × Int := if (keyS P Q G i xs).2 = 0 then (if s < Q then (decide (powm G s P = (keyS P Q G i xs).1), 0) else (false, 2)) else (false, (keyS P Q G i xs).2)

set_option maxRecDepth 100000 in
set_option maxHeartbeats 4000000 in
theorem sValue_any {P Q G i v er : Int} {a : Option Addr} {n c : Nat} {xs : List Int} (w : World) (hP : 0 ≤ P) (hQ : 0 ≤ Q) (hG : 0 ≤ G) (il : -9223372036854775808 ≤ i) (iu : i ≤ 9223372036854775807) (h : ShI .u64 w a n xs) (hn : n ≤ 1000000) (hx : ∀ x, x ∈ xs → U64 x) (hr : valueS P Q G i xs = (v, er)) :
    Calls Try.prog 19 #[.agg #[.int .u64 P, .int .u64 Q, .int .u64 G], .slice a n c, .int .i64 i] w fun e w' => e = .returned (.tuple #[.int .u64 v, .int .i64 er]) ∧ Below w.heap.size w w' := by
  have HS := Lib.hid h
  clear h
  by_cases hH : Has P Q G
  case neg =>
    obtain ⟨rfl, rfl⟩ := Prod.mk.inj (show (0, 300) = (v, er) by rw [← hr]; simp [valueS, hH])
    have HA := Lib.hid (askS_no (es := []) (ns := []) hH)
    have HH := Lib.hid hH
    clear hr hH
    have F_g := Lib.hid (show Boxed (w.alloc (.cells #[.int .u64 P, .int .u64 Q, .int .u64 G] 24)) (w.heap.size) P Q G from Boxed.at _ P Q G _ (w.heap.size) (by simp))
    have HBW := Lib.hid (show Below w.heap.size w (w.alloc (.cells #[.int .u64 P, .int .u64 Q, .int .u64 G] 24)) from (Below.refl _ _).alloc (by simp <;> omega) _)
    go_enter Try.func19, Try.ntmps19
    obtain ⟨x0a, x0b, x0c, -⟩ := id F_g.out
    go_wp2_with fail
    clear x0a x0b x0c
    refine (form_no P Q G _ hP hQ hG HH.out).mono ?_
    rintro e w1 ⟨rfl, hb1⟩
    replace F_g := Lib.hid (F_g.out.keep hb1)
    replace HBW := Lib.hid (HBW.out.trans (hb1.mono HBW.out.size))
    clear hb1
    obtain ⟨x0a, x0b, x0c, -⟩ := id F_g.out
    go_wp2_with fail
    go_ret2
    exact ⟨rfl, HBW.out⟩
  case pos =>
    have HA := Lib.hid (askS_ok (es := []) (ns := []) hH (by simp) (by simp))
    obtain ⟨p5, p3, hQ', pq, g2, gP⟩ := id hH
    have q3 : Q < 1073741824 := by omega
    have q1 : 1 < Q := by omega
    have HH := Lib.hid hH
    clear pq
    cases hb : belowS Q xs
    case false =>
      obtain ⟨rfl, rfl⟩ := Prod.mk.inj (show (0, 2) = (v, er) by rw [← hr]; simp [valueS, hH, hb])
      have HB := Lib.hid hb
      clear hr hb hH
      have F_g := Lib.hid (show Boxed (w.alloc (.cells #[.int .u64 P, .int .u64 Q, .int .u64 G] 24)) (w.heap.size) P Q G from Boxed.at _ P Q G _ (w.heap.size) (by simp))
      have HBW := Lib.hid (show Below w.heap.size w (w.alloc (.cells #[.int .u64 P, .int .u64 Q, .int .u64 G] 24)) from (Below.refl _ _).alloc (by simp <;> omega) _)
      go_enter Try.func19, Try.ntmps19
      obtain ⟨x0a, x0b, x0c, -⟩ := id F_g.out
      go_wp2_with fail
      clear x0a x0b x0c
      refine (form_yes P Q G _ HH.out).mono ?_
      rintro e w1 ⟨rfl, hb1⟩
      replace F_g := Lib.hid (F_g.out.keep hb1)
      replace HBW := Lib.hid (HBW.out.trans (hb1.mono HBW.out.size))
      clear hb1
      obtain ⟨x0a, x0b, x0c, -⟩ := id F_g.out
      go_wp2_with fail
      clear x0a x0b x0c
      refine (sbelow_any _ (HS.out.keep HBW.out) HB.out).mono ?_
      rintro e w2 ⟨rfl, hb2⟩
      replace F_g := Lib.hid (F_g.out.keep hb2)
      replace HBW := Lib.hid (HBW.out.trans (hb2.mono HBW.out.size))
      clear hb2
      obtain ⟨x0a, x0b, x0c, -⟩ := id F_g.out
      go_wp2_with fail
      go_ret2
      exact ⟨rfl, HBW.out⟩
    case true =>
      cases hnu : numS Q i
      case false =>
        obtain ⟨rfl, rfl⟩ := Prod.mk.inj (show (0, 2) = (v, er) by rw [← hr]; simp [valueS, hH, hb, hnu])
        have HB := Lib.hid hb
        have HN := Lib.hid hnu
        clear hr hb hnu hH
        have F_g := Lib.hid (show Boxed (w.alloc (.cells #[.int .u64 P, .int .u64 Q, .int .u64 G] 24)) (w.heap.size) P Q G from Boxed.at _ P Q G _ (w.heap.size) (by simp))
        have HBW := Lib.hid (show Below w.heap.size w (w.alloc (.cells #[.int .u64 P, .int .u64 Q, .int .u64 G] 24)) from (Below.refl _ _).alloc (by simp <;> omega) _)
        go_enter Try.func19, Try.ntmps19
        obtain ⟨x0a, x0b, x0c, -⟩ := id F_g.out
        go_wp2_with fail
        clear x0a x0b x0c
        refine (form_yes P Q G _ HH.out).mono ?_
        rintro e w1 ⟨rfl, hb1⟩
        replace F_g := Lib.hid (F_g.out.keep hb1)
        replace HBW := Lib.hid (HBW.out.trans (hb1.mono HBW.out.size))
        clear hb1
        obtain ⟨x0a, x0b, x0c, -⟩ := id F_g.out
        go_wp2_with fail
        clear x0a x0b x0c
        refine (sbelow_any _ (HS.out.keep HBW.out) HB.out).mono ?_
        rintro e w2 ⟨rfl, hb2⟩
        replace F_g := Lib.hid (F_g.out.keep hb2)
        replace HBW := Lib.hid (HBW.out.trans (hb2.mono HBW.out.size))
        clear hb2
        obtain ⟨x0a, x0b, x0c, -⟩ := id F_g.out
        go_wp2_with fail
        clear x0a x0b x0c
        refine (snumbered_any _ il iu HN.out).mono ?_
        rintro e w3 ⟨rfl, hb3⟩
        replace F_g := Lib.hid (F_g.out.keep hb3)
        replace HBW := Lib.hid (HBW.out.trans (hb3.mono HBW.out.size))
        clear hb3
        obtain ⟨x0a, x0b, x0c, -⟩ := id F_g.out
        go_wp2_with fail
        go_ret2
        exact ⟨rfl, HBW.out⟩
      case true =>
        obtain ⟨hv, rfl⟩ := Prod.mk.inj (show (valS Q i xs, 0) = (v, er) by rw [← hr]; simp [valueS, hH, hb, hnu])
        have HV := Lib.hid hv
        have HX := Lib.hid (belowS_bd hb hx)
        obtain ⟨i0, i8, iQ⟩ := numS_true hnu
        obtain ⟨l1, l8, -⟩ := belowS_true hb
        rw [← HS.out.len] at l1 l8
        have HB := Lib.hid hb
        have HN := Lib.hid hnu
        clear hr hb hnu hH hv hx
        have F_g := Lib.hid (show Boxed (w.alloc (.cells #[.int .u64 P, .int .u64 Q, .int .u64 G] 24)) (w.heap.size) P Q G from Boxed.at _ P Q G _ (w.heap.size) (by simp))
        have HBW := Lib.hid (show Below w.heap.size w (w.alloc (.cells #[.int .u64 P, .int .u64 Q, .int .u64 G] 24)) from (Below.refl _ _).alloc (by simp <;> omega) _)
        go_enter Try.func19, Try.ntmps19
        obtain ⟨x0a, x0b, x0c, -⟩ := id F_g.out
        go_wp2_with fail
        clear x0a x0b x0c
        refine (form_yes P Q G _ HH.out).mono ?_
        rintro e w1 ⟨rfl, hb1⟩
        replace F_g := Lib.hid (F_g.out.keep hb1)
        replace HBW := Lib.hid (HBW.out.trans (hb1.mono HBW.out.size))
        clear hb1
        obtain ⟨x0a, x0b, x0c, -⟩ := id F_g.out
        go_wp2_with fail
        clear x0a x0b x0c
        refine (sbelow_any _ (HS.out.keep HBW.out) HB.out).mono ?_
        rintro e w2 ⟨rfl, hb2⟩
        replace F_g := Lib.hid (F_g.out.keep hb2)
        replace HBW := Lib.hid (HBW.out.trans (hb2.mono HBW.out.size))
        clear hb2
        obtain ⟨x0a, x0b, x0c, -⟩ := id F_g.out
        go_wp2_with fail
        clear x0a x0b x0c
        refine (snumbered_any _ il iu HN.out).mono ?_
        rintro e w3 ⟨rfl, hb3⟩
        replace F_g := Lib.hid (F_g.out.keep hb3)
        replace HBW := Lib.hid (HBW.out.trans (hb3.mono HBW.out.size))
        clear hb3
        obtain ⟨x0a, x0b, x0c, -⟩ := id F_g.out
        go_wp2_with fail
        clear x0a x0b x0c
        refine (svalue_any _ HH.out i0 iQ (HS.out.keep HBW.out) l1 (by omega) HX.out HV.out).mono ?_
        rintro e w4 ⟨rfl, hb4⟩
        replace F_g := Lib.hid (F_g.out.keep hb4)
        replace HBW := Lib.hid (HBW.out.trans (hb4.mono HBW.out.size))
        clear hb4
        obtain ⟨x0a, x0b, x0c, -⟩ := id F_g.out
        go_wp2_with fail
        go_ret2
        exact ⟨rfl, HBW.out⟩

set_option maxRecDepth 100000 in
set_option maxHeartbeats 4000000 in
theorem rValue_any {P Q G i v er : Int} {a : Option Addr} {n c : Nat} {xs : List Int} (w : World) (hP : 0 ≤ P) (hQ : 0 ≤ Q) (hG : 0 ≤ G) (il : -9223372036854775808 ≤ i) (iu : i ≤ 9223372036854775807) (h : ShI .u64 w a n xs) (hn : n ≤ 1000000) (hx : ∀ x, x ∈ xs → U64 x) (hr : valueS P Q G i xs = (v, er)) :
    Calls Try.prog 20 #[.agg #[.int .u64 P, .int .u64 Q, .int .u64 G], .slice a n c, .int .i64 i] w fun e w' => e = .returned (.tuple #[.int .u64 v, .int .i64 er]) ∧ Below w.heap.size w w' := by
  have HS := Lib.hid h
  clear h
  by_cases hH : Has P Q G
  case neg =>
    obtain ⟨rfl, rfl⟩ := Prod.mk.inj (show (0, 300) = (v, er) by rw [← hr]; simp [valueS, hH])
    have HA := Lib.hid (askS_no (es := []) (ns := []) hH)
    have HH := Lib.hid hH
    clear hr hH
    have F_g := Lib.hid (show Boxed (w.alloc (.cells #[.int .u64 P, .int .u64 Q, .int .u64 G] 24)) (w.heap.size) P Q G from Boxed.at _ P Q G _ (w.heap.size) (by simp))
    have HBW := Lib.hid (show Below w.heap.size w (w.alloc (.cells #[.int .u64 P, .int .u64 Q, .int .u64 G] 24)) from (Below.refl _ _).alloc (by simp <;> omega) _)
    go_enter Try.func20, Try.ntmps20
    obtain ⟨x0a, x0b, x0c, -⟩ := id F_g.out
    go_wp2_with fail
    clear x0a x0b x0c
    refine (rAsked_any _ hP hQ hG (ShL.nil _) (ShL.nil _) (by simp) (by simp) HA.out).mono ?_
    rintro e w1 ⟨rfl, hb1⟩
    replace F_g := Lib.hid (F_g.out.keep hb1)
    replace HBW := Lib.hid (HBW.out.trans (hb1.mono HBW.out.size))
    clear hb1
    obtain ⟨x0a, x0b, x0c, -⟩ := id F_g.out
    go_wp2_with fail
    go_ret2
    exact ⟨rfl, HBW.out⟩
  case pos =>
    have HA := Lib.hid (askS_ok (es := []) (ns := []) hH (by simp) (by simp))
    obtain ⟨p5, p3, hQ', pq, g2, gP⟩ := id hH
    have q3 : Q < 1073741824 := by omega
    have q1 : 1 < Q := by omega
    have HH := Lib.hid hH
    clear pq
    cases hb : belowS Q xs
    case false =>
      obtain ⟨rfl, rfl⟩ := Prod.mk.inj (show (0, 2) = (v, er) by rw [← hr]; simp [valueS, hH, hb])
      have HB := Lib.hid hb
      clear hr hb hH
      have F_g := Lib.hid (show Boxed (w.alloc (.cells #[.int .u64 P, .int .u64 Q, .int .u64 G] 24)) (w.heap.size) P Q G from Boxed.at _ P Q G _ (w.heap.size) (by simp))
      have HBW := Lib.hid (show Below w.heap.size w (w.alloc (.cells #[.int .u64 P, .int .u64 Q, .int .u64 G] 24)) from (Below.refl _ _).alloc (by simp <;> omega) _)
      go_enter Try.func20, Try.ntmps20
      obtain ⟨x0a, x0b, x0c, -⟩ := id F_g.out
      go_wp2_with fail
      clear x0a x0b x0c
      refine (rAsked_any _ hP hQ hG (ShL.nil _) (ShL.nil _) (by simp) (by simp) HA.out).mono ?_
      rintro e w1 ⟨rfl, hb1⟩
      replace F_g := Lib.hid (F_g.out.keep hb1)
      replace HBW := Lib.hid (HBW.out.trans (hb1.mono HBW.out.size))
      clear hb1
      obtain ⟨x0a, x0b, x0c, -⟩ := id F_g.out
      go_wp2_with fail
      clear x0a x0b x0c
      refine (rbelow_any _ (HS.out.keep HBW.out) hn HB.out).mono ?_
      rintro e w2 ⟨rfl, rfl⟩
      obtain ⟨x0a, x0b, x0c, -⟩ := id F_g.out
      go_wp2_with fail
      go_ret2
      exact ⟨rfl, HBW.out⟩
    case true =>
      cases hnu : numS Q i
      case false =>
        obtain ⟨rfl, rfl⟩ := Prod.mk.inj (show (0, 2) = (v, er) by rw [← hr]; simp [valueS, hH, hb, hnu])
        have HB := Lib.hid hb
        have HN := Lib.hid hnu
        clear hr hb hnu hH
        have F_g := Lib.hid (show Boxed (w.alloc (.cells #[.int .u64 P, .int .u64 Q, .int .u64 G] 24)) (w.heap.size) P Q G from Boxed.at _ P Q G _ (w.heap.size) (by simp))
        have HBW := Lib.hid (show Below w.heap.size w (w.alloc (.cells #[.int .u64 P, .int .u64 Q, .int .u64 G] 24)) from (Below.refl _ _).alloc (by simp <;> omega) _)
        go_enter Try.func20, Try.ntmps20
        obtain ⟨x0a, x0b, x0c, -⟩ := id F_g.out
        go_wp2_with fail
        clear x0a x0b x0c
        refine (rAsked_any _ hP hQ hG (ShL.nil _) (ShL.nil _) (by simp) (by simp) HA.out).mono ?_
        rintro e w1 ⟨rfl, hb1⟩
        replace F_g := Lib.hid (F_g.out.keep hb1)
        replace HBW := Lib.hid (HBW.out.trans (hb1.mono HBW.out.size))
        clear hb1
        obtain ⟨x0a, x0b, x0c, -⟩ := id F_g.out
        go_wp2_with fail
        clear x0a x0b x0c
        refine (rbelow_any _ (HS.out.keep HBW.out) hn HB.out).mono ?_
        rintro e w2 ⟨rfl, rfl⟩
        obtain ⟨x0a, x0b, x0c, -⟩ := id F_g.out
        go_wp2_with fail
        clear x0a x0b x0c
        refine (rnumbered_any _ il iu HN.out).mono ?_
        rintro e w3 ⟨rfl, hb3⟩
        replace F_g := Lib.hid (F_g.out.keep hb3)
        replace HBW := Lib.hid (HBW.out.trans (hb3.mono HBW.out.size))
        clear hb3
        obtain ⟨x0a, x0b, x0c, -⟩ := id F_g.out
        go_wp2_with fail
        go_ret2
        exact ⟨rfl, HBW.out⟩
      case true =>
        obtain ⟨hv, rfl⟩ := Prod.mk.inj (show (valS Q i xs, 0) = (v, er) by rw [← hr]; simp [valueS, hH, hb, hnu])
        have HV := Lib.hid hv
        have HX := Lib.hid (belowS_bd hb hx)
        obtain ⟨i0, i8, iQ⟩ := numS_true hnu
        obtain ⟨l1, l8, -⟩ := belowS_true hb
        rw [← HS.out.len] at l1 l8
        have HB := Lib.hid hb
        have HN := Lib.hid hnu
        clear hr hb hnu hH hv hx
        have F_g := Lib.hid (show Boxed (w.alloc (.cells #[.int .u64 P, .int .u64 Q, .int .u64 G] 24)) (w.heap.size) P Q G from Boxed.at _ P Q G _ (w.heap.size) (by simp))
        have HBW := Lib.hid (show Below w.heap.size w (w.alloc (.cells #[.int .u64 P, .int .u64 Q, .int .u64 G] 24)) from (Below.refl _ _).alloc (by simp <;> omega) _)
        go_enter Try.func20, Try.ntmps20
        obtain ⟨x0a, x0b, x0c, -⟩ := id F_g.out
        go_wp2_with fail
        clear x0a x0b x0c
        refine (rAsked_any _ hP hQ hG (ShL.nil _) (ShL.nil _) (by simp) (by simp) HA.out).mono ?_
        rintro e w1 ⟨rfl, hb1⟩
        replace F_g := Lib.hid (F_g.out.keep hb1)
        replace HBW := Lib.hid (HBW.out.trans (hb1.mono HBW.out.size))
        clear hb1
        obtain ⟨x0a, x0b, x0c, -⟩ := id F_g.out
        go_wp2_with fail
        clear x0a x0b x0c
        refine (rbelow_any _ (HS.out.keep HBW.out) hn HB.out).mono ?_
        rintro e w2 ⟨rfl, rfl⟩
        obtain ⟨x0a, x0b, x0c, -⟩ := id F_g.out
        go_wp2_with fail
        clear x0a x0b x0c
        refine (rnumbered_any _ il iu HN.out).mono ?_
        rintro e w3 ⟨rfl, hb3⟩
        replace F_g := Lib.hid (F_g.out.keep hb3)
        replace HBW := Lib.hid (HBW.out.trans (hb3.mono HBW.out.size))
        clear hb3
        obtain ⟨x0a, x0b, x0c, -⟩ := id F_g.out
        go_wp2_with fail
        clear x0a x0b x0c
        refine (rat_val _ HH.out i0 iQ (HS.out.keep HBW.out) (by omega) HX.out HV.out).mono ?_
        rintro e w4 ⟨rfl, hb4⟩
        replace F_g := Lib.hid (F_g.out.keep hb4)
        replace HBW := Lib.hid (HBW.out.trans (hb4.mono HBW.out.size))
        clear hb4
        obtain ⟨x0a, x0b, x0c, -⟩ := id F_g.out
        go_wp2_with fail
        go_ret2
        exact ⟨rfl, HBW.out⟩

set_option maxRecDepth 100000 in
set_option maxHeartbeats 4000000 in
theorem skey_any {P Q G i v : Int} {a : Option Addr} {n c : Nat} {xs : List Int} (w : World) (hH : Has P Q G) (hi0 : 0 ≤ i) (hiQ : i < Q) (h : ShI .u64 w a n xs) (hn : n ≤ 1000) (hx : ∀ x, x ∈ xs → 0 ≤ x ∧ x < P) (hv : keyOfS P Q i xs n = v) :
    Calls Try.prog 64 #[.agg #[.int .u64 P, .int .u64 Q, .int .u64 G], .slice a n c, .int .i64 i] w fun e w' => e = .returned (.int .u64 v) ∧ Below w.heap.size w w' := by
  obtain ⟨p5, p3, hQ', pq, g2, gP⟩ := id hH
  have q3 : Q < 1073741824 := by omega
  have q1 : 1 < Q := by omega
  have p1 : 1 < P := by omega
  have hwi : IntKind.u64.wrap i = i := wrap_u hi0 (by omega)
  have HS := Lib.hid h
  have HX := Lib.hid hx
  have HV := Lib.hid hv
  have HH := Lib.hid hH
  clear h hx hv hH pq
  have F_g := Lib.hid (show Boxed (w.alloc (.cells #[.int .u64 P, .int .u64 Q, .int .u64 G] 24)) (w.heap.size) P Q G from Boxed.at _ P Q G _ (w.heap.size) (by simp))
  have HBW := Lib.hid (show Below w.heap.size w (w.alloc (.cells #[.int .u64 P, .int .u64 Q, .int .u64 G] 24)) from (Below.refl _ _).alloc (by simp <;> omega) _)
  go_enter Try.func64, Try.ntmps64
  go_wp2_with fail
  go_loopw [7, 8, 10, 11, 15] (fun c7 c8 c10 c11 c15 wr => ∃ k : Nat, k ≤ n ∧ c15 = .int .i64 k ∧ ∃ o x : Int, c7 = .int .u64 o ∧ c8 = .int .u64 x ∧ Hid (o = keyOfS P Q i xs k) ∧ Hid (x = powm i k Q) ∧ Hid (Boxed wr w.heap.size P Q G) ∧ Hid (Below w.heap.size w wr)) (fun _ _ _ _ c15 _ => n - (intOf c15).toNat)
  case atStart => exact ⟨0, Nat.zero_le _, rfl, _, _, rfl, rfl, rfl, (by show (1 : Int) = powm i 0 Q; rw [powm_zero]; exact (Int.emod_eq_of_lt (by omega) q1).symm), F_g.out, HBW.out⟩
  case round =>
    clear F_g HBW
    obtain ⟨k, hk, rfl, o, x, rfl, rfl, HO, HXP, F_g, HBW⟩ := hrel
    by_cases hlt : k < n
    case neg =>
      have hkn : k = n := by omega
      have HZ := Lib.hid (show o = v by rw [HO.out, hkn]; exact HV.out)
      clear hkn
      go_wp2_with fail
      go_ret
      exact ⟨ret_int HZ.out, HBW.out⟩
    case pos =>
      obtain ⟨s, f, hsa, hsl, hck, hmem⟩ := HS.out.at k hlt
      have hck' := (HBW.out.cell (p := ⟨s, f + k, none⟩) hsl).trans hck
      clear hck
      obtain ⟨y, hy⟩ : ∃ y, xs.getD k 0 = y := ⟨_, rfl⟩
      rw [hy] at hck' hmem
      have y0 := (HX.out y hmem).1
      have yP := (HX.out y hmem).2
      have HY := Lib.hid hy
      clear hmem hy
      subst hsa
      have hk0 : (0 : Int) ≤ (k : Int) := by omega
      have hk1 : (k : Int) < (n : Int) := by omega
      have o0 : 0 ≤ o := by rw [HO.out]; exact (keyOfS_range p1 xs k).1
      have oP : o < P := by rw [HO.out]; exact (keyOfS_range p1 xs k).2
      have x0 : 0 ≤ x := by rw [HXP.out]; exact powm_nonneg (by omega)
      have xQ : x < Q := by rw [HXP.out]; exact powm_lt (by omega)
      have UX := Lib.hid (show U64 x from ⟨x0, by omega⟩)
      replace UX := UX
      obtain ⟨t, ht⟩ : ∃ t, powm y x P = t := ⟨_, rfl⟩
      have t0 : 0 ≤ t := by rw [← ht]; exact powm_nonneg (by omega)
      have tP : t < P := by rw [← ht]; exact powm_lt (by omega)
      obtain ⟨o2, ho2⟩ : ∃ o2, o * t % P = o2 := ⟨_, rfl⟩
      obtain ⟨x2, hx2⟩ : ∃ x2, x * i % Q = x2 := ⟨_, rfl⟩
      have HT := Lib.hid ht
      have HO2 := Lib.hid ho2
      have HX2 := Lib.hid hx2
      clear ht ho2 hx2
      obtain ⟨x0a, x0b, x0c, -⟩ := id F_g.out
      go_wp2_with fail
      clear x0a x0b x0c
      refine (pow_ok P Q G y x t _ HH.out y0 yP UX.out HT.out).mono ?_
      rintro e w1 ⟨rfl, hb1⟩
      replace F_g := Lib.hid (F_g.out.keep hb1)
      replace HBW := Lib.hid (HBW.out.trans (hb1.mono HBW.out.size))
      clear hb1
      obtain ⟨x0a, x0b, x0c, -⟩ := id F_g.out
      go_wp2_with fail
      clear x0a x0b x0c
      refine (mul_ok P Q G o t o2 _ HH.out o0 oP t0 tP HO2.out).mono ?_
      rintro e w2 ⟨rfl, hb2⟩
      replace F_g := Lib.hid (F_g.out.keep hb2)
      replace HBW := Lib.hid (HBW.out.trans (hb2.mono HBW.out.size))
      clear hb2
      obtain ⟨x0a, x0b, x0c, -⟩ := id F_g.out
      go_wp2_with fail
      clear x0a x0b x0c
      refine (stimes_ok _ HH.out x0 xQ hi0 hiQ HX2.out).mono ?_
      rintro e w3 ⟨rfl, hb3⟩
      replace F_g := Lib.hid (F_g.out.keep hb3)
      replace HBW := Lib.hid (HBW.out.trans (hb3.mono HBW.out.size))
      clear hb3
      obtain ⟨x0a, x0b, x0c, -⟩ := id F_g.out
      go_wp2_with fail
      go_roundw
      case rel => exact ⟨k + 1, by omega, by go_num, _, _, rfl, rfl, (by rw [← HO2.out, ← HT.out, HXP.out, ← HY.out, HO.out]; rfl), (by rw [← HX2.out, HXP.out]; exact (powm_step i k Q hi0 hiQ).symm), F_g.out, HBW.out⟩
      case measure => simp [intOf]; omega

set_option maxRecDepth 100000 in
set_option maxHeartbeats 4000000 in
theorem rkeyof_any {P Q G i v : Int} {a : Option Addr} {n c : Nat} {xs : List Int} (w : World) (hH : Has P Q G) (hi0 : 0 ≤ i) (hiQ : i < Q) (h : ShI .u64 w a n xs) (hn : n ≤ 1000) (hx : ∀ x, x ∈ xs → 0 ≤ x ∧ x < P) (hv : keyOfS P Q i xs n = v) :
    Calls Try.prog 65 #[.agg #[.int .u64 P, .int .u64 Q, .int .u64 G], .slice a n c, .int .i64 i] w fun e w' => e = .returned (.int .u64 v) ∧ Below w.heap.size w w' := by
  obtain ⟨p5, p3, hQ', pq, g2, gP⟩ := id hH
  have q3 : Q < 1073741824 := by omega
  have q1 : 1 < Q := by omega
  have p1 : 1 < P := by omega
  have hwi : IntKind.u64.wrap i = i := wrap_u hi0 (by omega)
  have HS := Lib.hid h
  have HX := Lib.hid hx
  have HV := Lib.hid hv
  have HH := Lib.hid hH
  clear h hx hv hH pq
  have F_g := Lib.hid (show Boxed (w.alloc (.cells #[.int .u64 P, .int .u64 Q, .int .u64 G] 24)) (w.heap.size) P Q G from Boxed.at _ P Q G _ (w.heap.size) (by simp))
  have HBW := Lib.hid (show Below w.heap.size w (w.alloc (.cells #[.int .u64 P, .int .u64 Q, .int .u64 G] 24)) from (Below.refl _ _).alloc (by simp <;> omega) _)
  go_enter Try.func65, Try.ntmps65
  go_wp2_with fail
  go_loopw [7, 8] (fun c7 c8 wr => ∃ k : Nat, k ≤ n ∧ c8 = .int .i64 k ∧ ∃ o : Int, c7 = .int .u64 o ∧ Hid (o = keyOfS P Q i xs k) ∧ Hid (Boxed wr w.heap.size P Q G) ∧ Hid (Below w.heap.size w wr)) (fun _ c8 _ => n - (intOf c8).toNat)
  case atStart => exact ⟨0, Nat.zero_le _, rfl, _, rfl, rfl, F_g.out, HBW.out⟩
  case round =>
    clear F_g HBW
    obtain ⟨k, hk, rfl, o, rfl, HO, F_g, HBW⟩ := hrel
    by_cases hlt : k < n
    case neg =>
      have hkn : k = n := by omega
      have HZ := Lib.hid (show o = v by rw [HO.out, hkn]; exact HV.out)
      clear hkn
      go_wp2_with fail
      go_ret
      exact ⟨ret_int HZ.out, HBW.out⟩
    case pos =>
      obtain ⟨s, f, hsa, hsl, hck, hmem⟩ := HS.out.at k hlt
      have hsw : s < w.heap.size := hsl
      obtain ⟨y, hy⟩ : ∃ y, xs.getD k 0 = y := ⟨_, rfl⟩
      rw [hy] at hck hmem
      have HEC := Lib.hid hck
      have y0 := (HX.out y hmem).1
      have yP := (HX.out y hmem).2
      have HY := Lib.hid hy
      clear hck hmem hy
      subst hsa
      have hk0 : (0 : Int) ≤ (k : Int) := by omega
      have hk1 : (k : Int) < (n : Int) := by omega
      have hwk : IntKind.u64.wrap (k : Int) = (k : Int) := wrap_u hk0 (by omega)
      have UK := Lib.hid (show U64 (k : Int) from ⟨hk0, by omega⟩)
      obtain ⟨p, hp⟩ : ∃ p, powm i k Q = p := ⟨_, rfl⟩
      have p0 : 0 ≤ p := by rw [← hp]; exact powm_nonneg (by omega)
      have pQ : p < Q := by rw [← hp]; exact powm_lt (by omega)
      have UP := Lib.hid (show U64 p from ⟨p0, by omega⟩)
      obtain ⟨t, ht⟩ : ∃ t, powm y p P = t := ⟨_, rfl⟩
      have t0 : 0 ≤ t := by rw [← ht]; exact powm_nonneg (by omega)
      have tP : t < P := by rw [← ht]; exact powm_lt (by omega)
      have HP := Lib.hid hp
      have HT := Lib.hid ht
      clear hp ht
      have o0 : 0 ≤ o := by rw [HO.out]; exact (keyOfS_range p1 xs k).1
      have oP : o < P := by rw [HO.out]; exact (keyOfS_range p1 xs k).2
      obtain ⟨mb1, mb2⟩ := mul_bound o0 (by omega) t0 (by omega)
      have hwm : IntKind.u64.wrap (o * t) = o * t := wrap_u mb1 (by omega)
      have htm : (o * t).tmod P = o * t % P := tmod_u mb1
      have hPn : P ≠ 0 := by omega
      go_wp2_with fail
      replace F_g := Lib.hid F_g.out.drew
      replace HBW := Lib.hid HBW.out.drew
      have hS := And.intro F_g.out.s ((HBW.out.cell (p := ⟨s, f + k, none⟩) hsw).trans HEC.out)
      refine wp_region_stage 18 (fun w' => SBox w' w.heap.size P Q G ∧ w'.cell? ⟨s, f + k, none⟩ = some (.int .u64 y)) (by kernel_rfl) ?_
      refine wpAnyB_takeP (i := 0) (some 15) (Op.move (Operand.tmp 7)) 22 (v := ?_) ⟨_, rfl, rfl, rfl, rfl, rfl⟩ (by kernel_rfl) (by kernel_rfl) (by kernel_rfl) (by kernel_rfl) (fun _ _ _ h => h) (fun _ => hS) (fun w' => ?_) ?_
      rotate_left
      · unfold bareOp
        go_simp
        try with_reducible rfl
      simp only [Act.put, List.setIfInBounds_toArray, List.set_cons_zero, List.set_cons_succ]
      refine wpAnyB_take (i := 1) (some 16) (Op.load 24 (Operand.tmp 3)) 24 (v := ?_) ⟨_, rfl, rfl, rfl, rfl, rfl⟩ (by kernel_rfl) (by kernel_rfl) (by kernel_rfl) [13, 14, 17, 18] (by kernel_rfl) (fun _ _ _ h => h) hS (fun w' hSw => ?_) ?_
      rotate_left
      · obtain ⟨⟨s0, s1, s2⟩, s3⟩ := hSw
        unfold bareOp
        go_simp
        try with_reducible rfl
      simp only [Act.put, List.setIfInBounds_toArray, List.set_cons_zero, List.set_cons_succ]
      refine wpAnyB_takeP (i := 2) (some 17) (Op.move (Operand.tmp 1)) 25 (v := ?_) ⟨_, rfl, rfl, rfl, rfl, rfl⟩ (by kernel_rfl) (by kernel_rfl) (by kernel_rfl) (by kernel_rfl) (fun _ _ _ h => h) (fun _ => hS) (fun w' => ?_) ?_
      rotate_left
      · unfold bareOp
        go_simp
        try with_reducible rfl
      simp only [Act.put, List.setIfInBounds_toArray, List.set_cons_zero, List.set_cons_succ]
      refine wpAnyB_takeP (i := 3) (some 18) (Op.move (Operand.tmp 8)) 3 (v := ?_) ⟨_, rfl, rfl, rfl, rfl, rfl⟩ (by kernel_rfl) (by kernel_rfl) (by kernel_rfl) (by kernel_rfl) (fun _ _ _ h => h) (fun _ => hS) (fun w' => ?_) ?_
      rotate_left
      · unfold bareOp
        go_simp
        try with_reducible rfl
      simp only [Act.put, List.setIfInBounds_toArray, List.set_cons_zero, List.set_cons_succ]
      refine wpAnyB_takeP (i := 4) (some 19) (Op.indexAddr 25 (Operand.tmp 17) (Operand.tmp 18)) 0 (v := ?_) ⟨_, rfl, rfl, rfl, rfl, rfl⟩ (by kernel_rfl) (by kernel_rfl) (by kernel_rfl) (by kernel_rfl) (fun _ _ _ h => h) (fun _ => hS) (fun w' => ?_) ?_
      rotate_left
      · unfold bareOp
        go_simp
        try with_reducible rfl
      simp only [Act.put, List.setIfInBounds_toArray, List.set_cons_zero, List.set_cons_succ]
      refine wpAnyB_take (i := 5) (some 20) (Op.load 22 (Operand.tmp 19)) 22 (v := ?_) ⟨_, rfl, rfl, rfl, rfl, rfl⟩ (by kernel_rfl) (by kernel_rfl) (by kernel_rfl) [13, 14, 17, 18] (by kernel_rfl) (fun _ _ _ h => h) hS (fun w' hSw => ?_) ?_
      rotate_left
      · obtain ⟨⟨s0, s1, s2⟩, s3⟩ := hSw
        unfold bareOp
        go_simp
        try with_reducible rfl
      simp only [Act.put, List.setIfInBounds_toArray, List.set_cons_zero, List.set_cons_succ]
      refine wpAnyB_takeP (i := 6) (some 21) (Op.fieldAddr 24 (Operand.tmp 3) 1) 0 (v := ?_) ⟨_, rfl, rfl, rfl, rfl, rfl⟩ (by kernel_rfl) (by kernel_rfl) (by kernel_rfl) (by kernel_rfl) (fun _ _ _ h => h) (fun _ => hS) (fun w' => ?_) ?_
      rotate_left
      · unfold bareOp
        go_simp
        try with_reducible rfl
      simp only [Act.put, List.setIfInBounds_toArray, List.set_cons_zero, List.set_cons_succ]
      refine wpAnyB_take (i := 7) (some 22) (Op.load 22 (Operand.tmp 21)) 22 (v := ?_) ⟨_, rfl, rfl, rfl, rfl, rfl⟩ (by kernel_rfl) (by kernel_rfl) (by kernel_rfl) [12, 13, 14, 17, 18] (by kernel_rfl) (fun _ _ _ h => h) hS (fun w' hSw => ?_) ?_
      rotate_left
      · obtain ⟨⟨s0, s1, s2⟩, s3⟩ := hSw
        unfold bareOp
        go_simp
        try with_reducible rfl
      simp only [Act.put, List.setIfInBounds_toArray, List.set_cons_zero, List.set_cons_succ]
      refine wpAnyB_takeP (i := 8) (some 23) (Op.move (Operand.tmp 2)) 3 (v := ?_) ⟨_, rfl, rfl, rfl, rfl, rfl⟩ (by kernel_rfl) (by kernel_rfl) (by kernel_rfl) (by kernel_rfl) (fun _ _ _ h => h) (fun _ => hS) (fun w' => ?_) ?_
      rotate_left
      · unfold bareOp
        go_simp
        try with_reducible rfl
      simp only [Act.put, List.setIfInBounds_toArray, List.set_cons_zero, List.set_cons_succ]
      refine wpAnyB_takeP (i := 9) (some 24) (Op.convert 3 22 (Operand.tmp 23)) 22 (v := ?_) ⟨_, rfl, rfl, rfl, rfl, rfl⟩ (by kernel_rfl) (by kernel_rfl) (by kernel_rfl) (by kernel_rfl) (fun _ _ _ h => h) (fun _ => hS) (fun w' => ?_) ?_
      rotate_left
      · unfold bareOp
        go_simp
        try with_reducible rfl
      simp only [Act.put, List.setIfInBounds_toArray, List.set_cons_zero, List.set_cons_succ]
      refine wpAnyB_takeP (i := 10) (some 25) (Op.move (Operand.tmp 8)) 3 (v := ?_) ⟨_, rfl, rfl, rfl, rfl, rfl⟩ (by kernel_rfl) (by kernel_rfl) (by kernel_rfl) (by kernel_rfl) (fun _ _ _ h => h) (fun _ => hS) (fun w' => ?_) ?_
      rotate_left
      · unfold bareOp
        go_simp
        try with_reducible rfl
      simp only [Act.put, List.setIfInBounds_toArray, List.set_cons_zero, List.set_cons_succ]
      refine wpAnyB_takeP (i := 11) (some 26) (Op.convert 3 22 (Operand.tmp 25)) 22 (v := ?_) ⟨_, rfl, rfl, rfl, rfl, rfl⟩ (by kernel_rfl) (by kernel_rfl) (by kernel_rfl) (by kernel_rfl) (fun _ _ _ h => h) (fun _ => hS) (fun w' => ?_) ?_
      rotate_left
      · unfold bareOp
        go_simp
        try with_reducible rfl
      simp only [Act.put, List.setIfInBounds_toArray, List.set_cons_zero, List.set_cons_succ]
      refine wpAnyB_takeP (i := 15) (some 30) (Op.fieldAddr 24 (Operand.tmp 3) 0) 0 (v := ?_) ⟨_, rfl, rfl, rfl, rfl, rfl⟩ (by kernel_rfl) (by kernel_rfl) (by kernel_rfl) (by kernel_rfl) (fun _ _ _ h => h) (fun _ => hS) (fun w' => ?_) ?_
      rotate_left
      · unfold bareOp
        go_simp
        try with_reducible rfl
      simp only [Act.put, List.setIfInBounds_toArray, List.set_cons_zero, List.set_cons_succ]
      refine wpAnyB_take (i := 16) (some 31) (Op.load 22 (Operand.tmp 30)) 22 (v := ?_) ⟨_, rfl, rfl, rfl, rfl, rfl⟩ (by kernel_rfl) (by kernel_rfl) (by kernel_rfl) [17, 18] (by kernel_rfl) (fun _ _ _ h => h) hS (fun w' hSw => ?_) ?_
      rotate_left
      · obtain ⟨⟨s0, s1, s2⟩, s3⟩ := hSw
        unfold bareOp
        go_simp
        try with_reducible rfl
      simp only [Act.put, List.setIfInBounds_toArray, List.set_cons_zero, List.set_cons_succ]
      refine wpAnyB_only (i := 12) (some 27) (Op.call { callee := Callee.value (Operand.func 88), args := #[Operand.tmp 22, Operand.tmp 24, Operand.tmp 26], argTypes := #[22, 22, 22] }) 22 ⟨_, rfl, rfl, rfl, rfl, rfl⟩ (by kernel_rfl) (fun K hK => ?_)
      unfold bareOp
      go_wp2_with (go_at_call 88; refine (rPower_any Q i k p _ (by omega) (by omega) hi0 (by omega) UK.out HP.out).mono ?_; rintro e w11 ⟨rfl, rfl⟩)
      refine hK.out _ _ (fun _ => hS) ?_
      clear hK K
      try simp only [Act.put, List.setIfInBounds_toArray, List.set_cons_zero, List.set_cons_succ]
      refine wpAnyB_only (i := 13) (some 28) (Op.call { callee := Callee.value (Operand.func 66), args := #[Operand.tmp 16, Operand.tmp 20, Operand.tmp 27], argTypes := #[24, 22, 22] }) 22 ⟨_, rfl, rfl, rfl, rfl, rfl⟩ (by kernel_rfl) (fun K hK => ?_)
      unfold bareOp
      go_wp2_with (go_at_call 66; refine (r31Power_any _ (by omega) (by omega) y0 (by omega) UP.out HT.out).mono ?_; rintro e w12 ⟨rfl, hb12⟩)
      replace F_g := Lib.hid (F_g.out.keep hb12)
      replace HBW := Lib.hid (HBW.out.trans (hb12.mono HBW.out.size))
      replace hS := And.intro F_g.out.s ((HBW.out.cell (p := ⟨s, f + k, none⟩) hsw).trans HEC.out)
      clear hb12
      refine hK.out _ _ (fun _ => hS) ?_
      clear hK K
      try simp only [Act.put, List.setIfInBounds_toArray, List.set_cons_zero, List.set_cons_succ]
      refine wpAnyB_takeP (i := 14) (some 29) (Op.binOp BinOp.mul 22 (Operand.tmp 15) (Operand.tmp 28) 22) 22 (v := ?_) ⟨_, rfl, rfl, rfl, rfl, rfl⟩ (by kernel_rfl) (by kernel_rfl) (by kernel_rfl) (by kernel_rfl) (fun _ _ _ h => h) (fun _ => hS) (fun w' => ?_) ?_
      rotate_left
      · unfold bareOp
        go_simp
        try with_reducible rfl
      simp only [Act.put, List.setIfInBounds_toArray, List.set_cons_zero, List.set_cons_succ]
      refine wpAnyB_takeP (i := 17) (some 32) (Op.binOp BinOp.rem 22 (Operand.tmp 29) (Operand.tmp 31) 22) 22 (v := ?_) ⟨_, rfl, rfl, rfl, rfl, rfl⟩ (by kernel_rfl) (by kernel_rfl) (by kernel_rfl) (by kernel_rfl) (fun _ _ _ h => h) (fun _ => hS) (fun w' => ?_) ?_
      rotate_left
      · unfold bareOp
        go_simp
        try with_reducible rfl
      simp only [Act.put, List.setIfInBounds_toArray, List.set_cons_zero, List.set_cons_succ]
      refine wpAnyB_only (i := 18) (some 7) (Op.assign (Operand.tmp 32)) 22 ⟨_, rfl, rfl, rfl, rfl, rfl⟩ (by kernel_rfl) (fun K hK => ?_)
      unfold bareOp
      go_wp2_with fail
      refine hK.out _ _ (fun h => absurd (h.symm.trans (by kernel_rfl : _ = true)) (by decide)) ?_
      clear hK K
      try simp only [Act.put, List.setIfInBounds_toArray, List.set_cons_zero, List.set_cons_succ]
      refine wpAnyB_done (by kernel_rfl) ?_ _
      go_wp2_with fail
      go_roundw
      case rel => exact ⟨k + 1, by omega, by go_num, _, rfl, (by rw [HO.out, ← HT.out, ← HP.out, ← HY.out]; rfl), F_g.out, HBW.out⟩
      case measure => simp [intOf]; omega

set_option maxRecDepth 100000 in
set_option maxHeartbeats 4000000 in
theorem sKey_any {P Q G i v er : Int} {a : Option Addr} {n c : Nat} {xs : List Int} (w : World) (hP : 0 ≤ P) (hQ : 0 ≤ Q) (hG : 0 ≤ G) (il : -9223372036854775808 ≤ i) (iu : i ≤ 9223372036854775807) (h : ShI .u64 w a n xs) (hn : n ≤ 1000000) (hx : ∀ x, x ∈ xs → U64 x) (hr : keyS P Q G i xs = (v, er)) :
    Calls Try.prog 23 #[.agg #[.int .u64 P, .int .u64 Q, .int .u64 G], .slice a n c, .int .i64 i] w fun e w' => e = .returned (.tuple #[.int .u64 v, .int .i64 er]) ∧ Below w.heap.size w w' := by
  have HS := Lib.hid h
  clear h
  by_cases hH : Has P Q G
  case neg =>
    obtain ⟨rfl, rfl⟩ := Prod.mk.inj (show (0, 300) = (v, er) by rw [← hr]; simp [keyS, hH])
    have HA := Lib.hid (askS_no (es := []) (ns := []) hH)
    have HH := Lib.hid hH
    clear hr hH
    have F_g := Lib.hid (show Boxed (w.alloc (.cells #[.int .u64 P, .int .u64 Q, .int .u64 G] 24)) (w.heap.size) P Q G from Boxed.at _ P Q G _ (w.heap.size) (by simp))
    have HBW := Lib.hid (show Below w.heap.size w (w.alloc (.cells #[.int .u64 P, .int .u64 Q, .int .u64 G] 24)) from (Below.refl _ _).alloc (by simp <;> omega) _)
    go_enter Try.func23, Try.ntmps23
    obtain ⟨x0a, x0b, x0c, -⟩ := id F_g.out
    go_wp2_with fail
    clear x0a x0b x0c
    refine (form_no P Q G _ hP hQ hG HH.out).mono ?_
    rintro e w1 ⟨rfl, hb1⟩
    replace F_g := Lib.hid (F_g.out.keep hb1)
    replace HBW := Lib.hid (HBW.out.trans (hb1.mono HBW.out.size))
    clear hb1
    obtain ⟨x0a, x0b, x0c, -⟩ := id F_g.out
    go_wp2_with fail
    go_ret2
    exact ⟨rfl, HBW.out⟩
  case pos =>
    have HA := Lib.hid (askS_ok (es := []) (ns := []) hH (by simp) (by simp))
    obtain ⟨p5, p3, hQ', pq, g2, gP⟩ := id hH
    have q3 : Q < 1073741824 := by omega
    have q1 : 1 < Q := by omega
    have HH := Lib.hid hH
    clear pq
    cases hb : belowS P xs
    case false =>
      obtain ⟨rfl, rfl⟩ := Prod.mk.inj (show (0, 2) = (v, er) by rw [← hr]; simp [keyS, hH, hb])
      have HB := Lib.hid hb
      clear hr hb hH
      have F_g := Lib.hid (show Boxed (w.alloc (.cells #[.int .u64 P, .int .u64 Q, .int .u64 G] 24)) (w.heap.size) P Q G from Boxed.at _ P Q G _ (w.heap.size) (by simp))
      have HBW := Lib.hid (show Below w.heap.size w (w.alloc (.cells #[.int .u64 P, .int .u64 Q, .int .u64 G] 24)) from (Below.refl _ _).alloc (by simp <;> omega) _)
      go_enter Try.func23, Try.ntmps23
      obtain ⟨x0a, x0b, x0c, -⟩ := id F_g.out
      go_wp2_with fail
      clear x0a x0b x0c
      refine (form_yes P Q G _ HH.out).mono ?_
      rintro e w1 ⟨rfl, hb1⟩
      replace F_g := Lib.hid (F_g.out.keep hb1)
      replace HBW := Lib.hid (HBW.out.trans (hb1.mono HBW.out.size))
      clear hb1
      obtain ⟨x0a, x0b, x0c, -⟩ := id F_g.out
      go_wp2_with fail
      clear x0a x0b x0c
      refine (sbelow_any _ (HS.out.keep HBW.out) HB.out).mono ?_
      rintro e w2 ⟨rfl, hb2⟩
      replace F_g := Lib.hid (F_g.out.keep hb2)
      replace HBW := Lib.hid (HBW.out.trans (hb2.mono HBW.out.size))
      clear hb2
      obtain ⟨x0a, x0b, x0c, -⟩ := id F_g.out
      go_wp2_with fail
      go_ret2
      exact ⟨rfl, HBW.out⟩
    case true =>
      cases hnu : numS Q i
      case false =>
        obtain ⟨rfl, rfl⟩ := Prod.mk.inj (show (0, 2) = (v, er) by rw [← hr]; simp [keyS, hH, hb, hnu])
        have HB := Lib.hid hb
        have HN := Lib.hid hnu
        clear hr hb hnu hH
        have F_g := Lib.hid (show Boxed (w.alloc (.cells #[.int .u64 P, .int .u64 Q, .int .u64 G] 24)) (w.heap.size) P Q G from Boxed.at _ P Q G _ (w.heap.size) (by simp))
        have HBW := Lib.hid (show Below w.heap.size w (w.alloc (.cells #[.int .u64 P, .int .u64 Q, .int .u64 G] 24)) from (Below.refl _ _).alloc (by simp <;> omega) _)
        go_enter Try.func23, Try.ntmps23
        obtain ⟨x0a, x0b, x0c, -⟩ := id F_g.out
        go_wp2_with fail
        clear x0a x0b x0c
        refine (form_yes P Q G _ HH.out).mono ?_
        rintro e w1 ⟨rfl, hb1⟩
        replace F_g := Lib.hid (F_g.out.keep hb1)
        replace HBW := Lib.hid (HBW.out.trans (hb1.mono HBW.out.size))
        clear hb1
        obtain ⟨x0a, x0b, x0c, -⟩ := id F_g.out
        go_wp2_with fail
        clear x0a x0b x0c
        refine (sbelow_any _ (HS.out.keep HBW.out) HB.out).mono ?_
        rintro e w2 ⟨rfl, hb2⟩
        replace F_g := Lib.hid (F_g.out.keep hb2)
        replace HBW := Lib.hid (HBW.out.trans (hb2.mono HBW.out.size))
        clear hb2
        obtain ⟨x0a, x0b, x0c, -⟩ := id F_g.out
        go_wp2_with fail
        clear x0a x0b x0c
        refine (snumbered_any _ il iu HN.out).mono ?_
        rintro e w3 ⟨rfl, hb3⟩
        replace F_g := Lib.hid (F_g.out.keep hb3)
        replace HBW := Lib.hid (HBW.out.trans (hb3.mono HBW.out.size))
        clear hb3
        obtain ⟨x0a, x0b, x0c, -⟩ := id F_g.out
        go_wp2_with fail
        go_ret2
        exact ⟨rfl, HBW.out⟩
      case true =>
        obtain ⟨hv, rfl⟩ := Prod.mk.inj (show (keyOfS P Q i xs xs.length, 0) = (v, er) by rw [← hr]; simp [keyS, hH, hb, hnu])
        have HV := Lib.hid hv
        have HVL := Lib.hid (show keyOfS P Q i xs n = v by rw [HS.out.len]; exact hv)
        have HX := Lib.hid (belowS_bd hb hx)
        obtain ⟨i0, i8, iQ⟩ := numS_true hnu
        obtain ⟨l1, l8, -⟩ := belowS_true hb
        rw [← HS.out.len] at l1 l8
        have HB := Lib.hid hb
        have HN := Lib.hid hnu
        clear hr hb hnu hH hv hx
        have F_g := Lib.hid (show Boxed (w.alloc (.cells #[.int .u64 P, .int .u64 Q, .int .u64 G] 24)) (w.heap.size) P Q G from Boxed.at _ P Q G _ (w.heap.size) (by simp))
        have HBW := Lib.hid (show Below w.heap.size w (w.alloc (.cells #[.int .u64 P, .int .u64 Q, .int .u64 G] 24)) from (Below.refl _ _).alloc (by simp <;> omega) _)
        go_enter Try.func23, Try.ntmps23
        obtain ⟨x0a, x0b, x0c, -⟩ := id F_g.out
        go_wp2_with fail
        clear x0a x0b x0c
        refine (form_yes P Q G _ HH.out).mono ?_
        rintro e w1 ⟨rfl, hb1⟩
        replace F_g := Lib.hid (F_g.out.keep hb1)
        replace HBW := Lib.hid (HBW.out.trans (hb1.mono HBW.out.size))
        clear hb1
        obtain ⟨x0a, x0b, x0c, -⟩ := id F_g.out
        go_wp2_with fail
        clear x0a x0b x0c
        refine (sbelow_any _ (HS.out.keep HBW.out) HB.out).mono ?_
        rintro e w2 ⟨rfl, hb2⟩
        replace F_g := Lib.hid (F_g.out.keep hb2)
        replace HBW := Lib.hid (HBW.out.trans (hb2.mono HBW.out.size))
        clear hb2
        obtain ⟨x0a, x0b, x0c, -⟩ := id F_g.out
        go_wp2_with fail
        clear x0a x0b x0c
        refine (snumbered_any _ il iu HN.out).mono ?_
        rintro e w3 ⟨rfl, hb3⟩
        replace F_g := Lib.hid (F_g.out.keep hb3)
        replace HBW := Lib.hid (HBW.out.trans (hb3.mono HBW.out.size))
        clear hb3
        obtain ⟨x0a, x0b, x0c, -⟩ := id F_g.out
        go_wp2_with fail
        clear x0a x0b x0c
        refine (skey_any _ HH.out i0 iQ (HS.out.keep HBW.out) (by omega) HX.out HVL.out).mono ?_
        rintro e w4 ⟨rfl, hb4⟩
        replace F_g := Lib.hid (F_g.out.keep hb4)
        replace HBW := Lib.hid (HBW.out.trans (hb4.mono HBW.out.size))
        clear hb4
        obtain ⟨x0a, x0b, x0c, -⟩ := id F_g.out
        go_wp2_with fail
        go_ret2
        exact ⟨rfl, HBW.out⟩

set_option maxRecDepth 100000 in
set_option maxHeartbeats 4000000 in
theorem rKey_any {P Q G i v er : Int} {a : Option Addr} {n c : Nat} {xs : List Int} (w : World) (hP : 0 ≤ P) (hQ : 0 ≤ Q) (hG : 0 ≤ G) (il : -9223372036854775808 ≤ i) (iu : i ≤ 9223372036854775807) (h : ShI .u64 w a n xs) (hn : n ≤ 1000000) (hx : ∀ x, x ∈ xs → U64 x) (hr : keyS P Q G i xs = (v, er)) :
    Calls Try.prog 24 #[.agg #[.int .u64 P, .int .u64 Q, .int .u64 G], .slice a n c, .int .i64 i] w fun e w' => e = .returned (.tuple #[.int .u64 v, .int .i64 er]) ∧ Below w.heap.size w w' := by
  have HS := Lib.hid h
  clear h
  by_cases hH : Has P Q G
  case neg =>
    obtain ⟨rfl, rfl⟩ := Prod.mk.inj (show (0, 300) = (v, er) by rw [← hr]; simp [keyS, hH])
    have HA := Lib.hid (askS_no (es := []) (ns := []) hH)
    have HH := Lib.hid hH
    clear hr hH
    have F_g := Lib.hid (show Boxed (w.alloc (.cells #[.int .u64 P, .int .u64 Q, .int .u64 G] 24)) (w.heap.size) P Q G from Boxed.at _ P Q G _ (w.heap.size) (by simp))
    have HBW := Lib.hid (show Below w.heap.size w (w.alloc (.cells #[.int .u64 P, .int .u64 Q, .int .u64 G] 24)) from (Below.refl _ _).alloc (by simp <;> omega) _)
    go_enter Try.func24, Try.ntmps24
    obtain ⟨x0a, x0b, x0c, -⟩ := id F_g.out
    go_wp2_with fail
    clear x0a x0b x0c
    refine (rAsked_any _ hP hQ hG (ShL.nil _) (ShL.nil _) (by simp) (by simp) HA.out).mono ?_
    rintro e w1 ⟨rfl, hb1⟩
    replace F_g := Lib.hid (F_g.out.keep hb1)
    replace HBW := Lib.hid (HBW.out.trans (hb1.mono HBW.out.size))
    clear hb1
    obtain ⟨x0a, x0b, x0c, -⟩ := id F_g.out
    go_wp2_with fail
    go_ret2
    exact ⟨rfl, HBW.out⟩
  case pos =>
    have HA := Lib.hid (askS_ok (es := []) (ns := []) hH (by simp) (by simp))
    obtain ⟨p5, p3, hQ', pq, g2, gP⟩ := id hH
    have q3 : Q < 1073741824 := by omega
    have q1 : 1 < Q := by omega
    have HH := Lib.hid hH
    clear pq
    cases hb : belowS P xs
    case false =>
      obtain ⟨rfl, rfl⟩ := Prod.mk.inj (show (0, 2) = (v, er) by rw [← hr]; simp [keyS, hH, hb])
      have HB := Lib.hid hb
      clear hr hb hH
      have F_g := Lib.hid (show Boxed (w.alloc (.cells #[.int .u64 P, .int .u64 Q, .int .u64 G] 24)) (w.heap.size) P Q G from Boxed.at _ P Q G _ (w.heap.size) (by simp))
      have HBW := Lib.hid (show Below w.heap.size w (w.alloc (.cells #[.int .u64 P, .int .u64 Q, .int .u64 G] 24)) from (Below.refl _ _).alloc (by simp <;> omega) _)
      go_enter Try.func24, Try.ntmps24
      obtain ⟨x0a, x0b, x0c, -⟩ := id F_g.out
      go_wp2_with fail
      clear x0a x0b x0c
      refine (rAsked_any _ hP hQ hG (ShL.nil _) (ShL.nil _) (by simp) (by simp) HA.out).mono ?_
      rintro e w1 ⟨rfl, hb1⟩
      replace F_g := Lib.hid (F_g.out.keep hb1)
      replace HBW := Lib.hid (HBW.out.trans (hb1.mono HBW.out.size))
      clear hb1
      obtain ⟨x0a, x0b, x0c, -⟩ := id F_g.out
      go_wp2_with fail
      clear x0a x0b x0c
      refine (rbelow_any _ (HS.out.keep HBW.out) hn HB.out).mono ?_
      rintro e w2 ⟨rfl, rfl⟩
      obtain ⟨x0a, x0b, x0c, -⟩ := id F_g.out
      go_wp2_with fail
      go_ret2
      exact ⟨rfl, HBW.out⟩
    case true =>
      cases hnu : numS Q i
      case false =>
        obtain ⟨rfl, rfl⟩ := Prod.mk.inj (show (0, 2) = (v, er) by rw [← hr]; simp [keyS, hH, hb, hnu])
        have HB := Lib.hid hb
        have HN := Lib.hid hnu
        clear hr hb hnu hH
        have F_g := Lib.hid (show Boxed (w.alloc (.cells #[.int .u64 P, .int .u64 Q, .int .u64 G] 24)) (w.heap.size) P Q G from Boxed.at _ P Q G _ (w.heap.size) (by simp))
        have HBW := Lib.hid (show Below w.heap.size w (w.alloc (.cells #[.int .u64 P, .int .u64 Q, .int .u64 G] 24)) from (Below.refl _ _).alloc (by simp <;> omega) _)
        go_enter Try.func24, Try.ntmps24
        obtain ⟨x0a, x0b, x0c, -⟩ := id F_g.out
        go_wp2_with fail
        clear x0a x0b x0c
        refine (rAsked_any _ hP hQ hG (ShL.nil _) (ShL.nil _) (by simp) (by simp) HA.out).mono ?_
        rintro e w1 ⟨rfl, hb1⟩
        replace F_g := Lib.hid (F_g.out.keep hb1)
        replace HBW := Lib.hid (HBW.out.trans (hb1.mono HBW.out.size))
        clear hb1
        obtain ⟨x0a, x0b, x0c, -⟩ := id F_g.out
        go_wp2_with fail
        clear x0a x0b x0c
        refine (rbelow_any _ (HS.out.keep HBW.out) hn HB.out).mono ?_
        rintro e w2 ⟨rfl, rfl⟩
        obtain ⟨x0a, x0b, x0c, -⟩ := id F_g.out
        go_wp2_with fail
        clear x0a x0b x0c
        refine (rnumbered_any _ il iu HN.out).mono ?_
        rintro e w3 ⟨rfl, hb3⟩
        replace F_g := Lib.hid (F_g.out.keep hb3)
        replace HBW := Lib.hid (HBW.out.trans (hb3.mono HBW.out.size))
        clear hb3
        obtain ⟨x0a, x0b, x0c, -⟩ := id F_g.out
        go_wp2_with fail
        go_ret2
        exact ⟨rfl, HBW.out⟩
      case true =>
        obtain ⟨hv, rfl⟩ := Prod.mk.inj (show (keyOfS P Q i xs xs.length, 0) = (v, er) by rw [← hr]; simp [keyS, hH, hb, hnu])
        have HV := Lib.hid hv
        have HVL := Lib.hid (show keyOfS P Q i xs n = v by rw [HS.out.len]; exact hv)
        have HX := Lib.hid (belowS_bd hb hx)
        obtain ⟨i0, i8, iQ⟩ := numS_true hnu
        obtain ⟨l1, l8, -⟩ := belowS_true hb
        rw [← HS.out.len] at l1 l8
        have HB := Lib.hid hb
        have HN := Lib.hid hnu
        clear hr hb hnu hH hv hx
        have F_g := Lib.hid (show Boxed (w.alloc (.cells #[.int .u64 P, .int .u64 Q, .int .u64 G] 24)) (w.heap.size) P Q G from Boxed.at _ P Q G _ (w.heap.size) (by simp))
        have HBW := Lib.hid (show Below w.heap.size w (w.alloc (.cells #[.int .u64 P, .int .u64 Q, .int .u64 G] 24)) from (Below.refl _ _).alloc (by simp <;> omega) _)
        go_enter Try.func24, Try.ntmps24
        obtain ⟨x0a, x0b, x0c, -⟩ := id F_g.out
        go_wp2_with fail
        clear x0a x0b x0c
        refine (rAsked_any _ hP hQ hG (ShL.nil _) (ShL.nil _) (by simp) (by simp) HA.out).mono ?_
        rintro e w1 ⟨rfl, hb1⟩
        replace F_g := Lib.hid (F_g.out.keep hb1)
        replace HBW := Lib.hid (HBW.out.trans (hb1.mono HBW.out.size))
        clear hb1
        obtain ⟨x0a, x0b, x0c, -⟩ := id F_g.out
        go_wp2_with fail
        clear x0a x0b x0c
        refine (rbelow_any _ (HS.out.keep HBW.out) hn HB.out).mono ?_
        rintro e w2 ⟨rfl, rfl⟩
        obtain ⟨x0a, x0b, x0c, -⟩ := id F_g.out
        go_wp2_with fail
        clear x0a x0b x0c
        refine (rnumbered_any _ il iu HN.out).mono ?_
        rintro e w3 ⟨rfl, hb3⟩
        replace F_g := Lib.hid (F_g.out.keep hb3)
        replace HBW := Lib.hid (HBW.out.trans (hb3.mono HBW.out.size))
        clear hb3
        obtain ⟨x0a, x0b, x0c, -⟩ := id F_g.out
        go_wp2_with fail
        clear x0a x0b x0c
        refine (rkeyof_any _ HH.out i0 iQ (HS.out.keep HBW.out) (by omega) HX.out HVL.out).mono ?_
        rintro e w4 ⟨rfl, hb4⟩
        replace F_g := Lib.hid (F_g.out.keep hb4)
        replace HBW := Lib.hid (HBW.out.trans (hb4.mono HBW.out.size))
        clear hb4
        obtain ⟨x0a, x0b, x0c, -⟩ := id F_g.out
        go_wp2_with fail
        go_ret2
        exact ⟨rfl, HBW.out⟩

set_option maxRecDepth 100000 in
set_option maxHeartbeats 4000000 in
theorem sVerify_any {P Q G i s er : Int} {v : Bool} {a : Option Addr} {n c : Nat} {xs : List Int} (w : World) (hP : 0 ≤ P) (hQ : 0 ≤ Q) (hG : 0 ≤ G) (us : U64 s) (il : -9223372036854775808 ≤ i) (iu : i ≤ 9223372036854775807) (h : ShI .u64 w a n xs) (hn : n ≤ 1000000) (hx : ∀ x, x ∈ xs → U64 x) (hr : verifyS P Q G i s xs = (v, er)) :
    Calls Try.prog 25 #[.agg #[.int .u64 P, .int .u64 Q, .int .u64 G], .slice a n c, .int .i64 i, .int .u64 s] w fun e w' => e = .returned (.tuple #[.bool v, .int .i64 er]) ∧ Below w.heap.size w w' := by
  have HS := Lib.hid h
  have HX := Lib.hid hx
  have US := Lib.hid us
  have s0 := us.1
  clear h hx us
  obtain ⟨k, f, hk⟩ : ∃ k f, keyS P Q G i xs = (k, f) := ⟨_, _, rfl⟩
  have HK := Lib.hid hk
  rw [verifyS, hk] at hr
  by_cases hf : f = 0
  case neg =>
    obtain ⟨rfl, rfl⟩ := Prod.mk.inj (show (false, f) = (v, er) by rw [← hr]; simp [hf])
    have hfb : (f != 0) = true := by simpa using hf
    have hfc : (f == 0) = false := by simpa using hf
    clear hr hk hf
    have F_g := Lib.hid (show Boxed (w.alloc (.cells #[.int .u64 P, .int .u64 Q, .int .u64 G] 24)) (w.heap.size) P Q G from Boxed.at _ P Q G _ (w.heap.size) (by simp))
    have HBW := Lib.hid (show Below w.heap.size w (w.alloc (.cells #[.int .u64 P, .int .u64 Q, .int .u64 G] 24)) from (Below.refl _ _).alloc (by simp <;> omega) _)
    go_enter Try.func25, Try.ntmps25
    obtain ⟨x0a, x0b, x0c, -⟩ := id F_g.out
    go_wp2_with fail
    clear x0a x0b x0c
    refine (sKey_any _ hP hQ hG il iu (HS.out.keep HBW.out) hn HX.out HK.out).mono ?_
    rintro e w1 ⟨rfl, hb1⟩
    replace F_g := Lib.hid (F_g.out.keep hb1)
    replace HBW := Lib.hid (HBW.out.trans (hb1.mono HBW.out.size))
    clear hb1
    obtain ⟨x0a, x0b, x0c, -⟩ := id F_g.out
    go_wp2_with fail
    go_ret2
    exact ⟨rfl, HBW.out⟩
  case pos =>
    subst hf
    have hH : Has P Q G := by
      unfold keyS at hk
      split at hk
      · assumption
      · cases hk
    obtain ⟨p5, p3, hQ', pq, g2, gP⟩ := id hH
    have q3 : Q < 1073741824 := by omega
    have g0 : 0 ≤ G := by omega
    have HH := Lib.hid hH
    clear pq hH hk
    by_cases hs : s < Q
    case neg =>
      obtain ⟨rfl, rfl⟩ := Prod.mk.inj (show (false, 2) = (v, er) by rw [← hr]; simp [hs])
      have d1 : decide (Q ≤ s) = true := by simp; omega
      clear hr
      have F_g := Lib.hid (show Boxed (w.alloc (.cells #[.int .u64 P, .int .u64 Q, .int .u64 G] 24)) (w.heap.size) P Q G from Boxed.at _ P Q G _ (w.heap.size) (by simp))
      have HBW := Lib.hid (show Below w.heap.size w (w.alloc (.cells #[.int .u64 P, .int .u64 Q, .int .u64 G] 24)) from (Below.refl _ _).alloc (by simp <;> omega) _)
      go_enter Try.func25, Try.ntmps25
      obtain ⟨x0a, x0b, x0c, -⟩ := id F_g.out
      go_wp2_with fail
      clear x0a x0b x0c
      refine (sKey_any _ hP hQ hG il iu (HS.out.keep HBW.out) hn HX.out HK.out).mono ?_
      rintro e w1 ⟨rfl, hb1⟩
      replace F_g := Lib.hid (F_g.out.keep hb1)
      replace HBW := Lib.hid (HBW.out.trans (hb1.mono HBW.out.size))
      clear hb1
      obtain ⟨x0a, x0b, x0c, -⟩ := id F_g.out
      go_wp2_with fail
      go_ret2
      exact ⟨rfl, HBW.out⟩
    case pos =>
      have d1 : decide (Q ≤ s) = false := by simp; omega
      obtain ⟨t, ht⟩ : ∃ t, powm G s P = t := ⟨_, rfl⟩
      have HT := Lib.hid ht
      by_cases he : t = k
      case neg =>
        obtain ⟨rfl, rfl⟩ := Prod.mk.inj (show (false, 0) = (v, er) by rw [← hr]; simp [hs, ht, he])
        have d2 : (t == k) = false := by simpa using he
        clear hr ht he
        have F_g := Lib.hid (show Boxed (w.alloc (.cells #[.int .u64 P, .int .u64 Q, .int .u64 G] 24)) (w.heap.size) P Q G from Boxed.at _ P Q G _ (w.heap.size) (by simp))
        have HBW := Lib.hid (show Below w.heap.size w (w.alloc (.cells #[.int .u64 P, .int .u64 Q, .int .u64 G] 24)) from (Below.refl _ _).alloc (by simp <;> omega) _)
        go_enter Try.func25, Try.ntmps25
        obtain ⟨x0a, x0b, x0c, -⟩ := id F_g.out
        go_wp2_with fail
        clear x0a x0b x0c
        refine (sKey_any _ hP hQ hG il iu (HS.out.keep HBW.out) hn HX.out HK.out).mono ?_
        rintro e w1 ⟨rfl, hb1⟩
        replace F_g := Lib.hid (F_g.out.keep hb1)
        replace HBW := Lib.hid (HBW.out.trans (hb1.mono HBW.out.size))
        clear hb1
        obtain ⟨x0a, x0b, x0c, -⟩ := id F_g.out
        go_wp2_with fail
        clear x0a x0b x0c
        refine (pow_ok P Q G G s t _ HH.out g0 gP US.out HT.out).mono ?_
        rintro e w2 ⟨rfl, hb2⟩
        replace F_g := Lib.hid (F_g.out.keep hb2)
        replace HBW := Lib.hid (HBW.out.trans (hb2.mono HBW.out.size))
        clear hb2
        obtain ⟨x0a, x0b, x0c, -⟩ := id F_g.out
        go_wp2_with fail
        go_ret2
        exact ⟨rfl, HBW.out⟩
      case pos =>
        obtain ⟨rfl, rfl⟩ := Prod.mk.inj (show (true, 0) = (v, er) by rw [← hr]; simp [hs, ht, he])
        have d2 : (t == k) = true := by simpa using he
        clear hr ht he
        have F_g := Lib.hid (show Boxed (w.alloc (.cells #[.int .u64 P, .int .u64 Q, .int .u64 G] 24)) (w.heap.size) P Q G from Boxed.at _ P Q G _ (w.heap.size) (by simp))
        have HBW := Lib.hid (show Below w.heap.size w (w.alloc (.cells #[.int .u64 P, .int .u64 Q, .int .u64 G] 24)) from (Below.refl _ _).alloc (by simp <;> omega) _)
        go_enter Try.func25, Try.ntmps25
        obtain ⟨x0a, x0b, x0c, -⟩ := id F_g.out
        go_wp2_with fail
        clear x0a x0b x0c
        refine (sKey_any _ hP hQ hG il iu (HS.out.keep HBW.out) hn HX.out HK.out).mono ?_
        rintro e w1 ⟨rfl, hb1⟩
        replace F_g := Lib.hid (F_g.out.keep hb1)
        replace HBW := Lib.hid (HBW.out.trans (hb1.mono HBW.out.size))
        clear hb1
        obtain ⟨x0a, x0b, x0c, -⟩ := id F_g.out
        go_wp2_with fail
        clear x0a x0b x0c
        refine (pow_ok P Q G G s t _ HH.out g0 gP US.out HT.out).mono ?_
        rintro e w2 ⟨rfl, hb2⟩
        replace F_g := Lib.hid (F_g.out.keep hb2)
        replace HBW := Lib.hid (HBW.out.trans (hb2.mono HBW.out.size))
        clear hb2
        obtain ⟨x0a, x0b, x0c, -⟩ := id F_g.out
        go_wp2_with fail
        go_ret2
        exact ⟨rfl, HBW.out⟩

set_option maxRecDepth 100000 in
set_option maxHeartbeats 4000000 in
theorem rVerify_any {P Q G i s er : Int} {v : Bool} {a : Option Addr} {n c : Nat} {xs : List Int} (w : World) (hP : 0 ≤ P) (hQ : 0 ≤ Q) (hG : 0 ≤ G) (us : U64 s) (il : -9223372036854775808 ≤ i) (iu : i ≤ 9223372036854775807) (h : ShI .u64 w a n xs) (hn : n ≤ 1000000) (hx : ∀ x, x ∈ xs → U64 x) (hr : verifyS P Q G i s xs = (v, er)) :
    Calls Try.prog 26 #[.agg #[.int .u64 P, .int .u64 Q, .int .u64 G], .slice a n c, .int .i64 i, .int .u64 s] w fun e w' => e = .returned (.tuple #[.bool v, .int .i64 er]) ∧ Below w.heap.size w w' := by
  have HS := Lib.hid h
  have HX := Lib.hid hx
  have US := Lib.hid us
  have s0 := us.1
  clear h hx us
  obtain ⟨k, f, hk⟩ : ∃ k f, keyS P Q G i xs = (k, f) := ⟨_, _, rfl⟩
  have HK := Lib.hid hk
  rw [verifyS, hk] at hr
  by_cases hf : f = 0
  case neg =>
    obtain ⟨rfl, rfl⟩ := Prod.mk.inj (show (false, f) = (v, er) by rw [← hr]; simp [hf])
    have hfb : (f != 0) = true := by simpa using hf
    have hfc : (f == 0) = false := by simpa using hf
    clear hr hk hf
    have F_g := Lib.hid (show Boxed (w.alloc (.cells #[.int .u64 P, .int .u64 Q, .int .u64 G] 24)) (w.heap.size) P Q G from Boxed.at _ P Q G _ (w.heap.size) (by simp))
    have HBW := Lib.hid (show Below w.heap.size w (w.alloc (.cells #[.int .u64 P, .int .u64 Q, .int .u64 G] 24)) from (Below.refl _ _).alloc (by simp <;> omega) _)
    go_enter Try.func26, Try.ntmps26
    obtain ⟨x0a, x0b, x0c, -⟩ := id F_g.out
    go_wp2_with fail
    clear x0a x0b x0c
    refine (rKey_any _ hP hQ hG il iu (HS.out.keep HBW.out) hn HX.out HK.out).mono ?_
    rintro e w1 ⟨rfl, hb1⟩
    replace F_g := Lib.hid (F_g.out.keep hb1)
    replace HBW := Lib.hid (HBW.out.trans (hb1.mono HBW.out.size))
    clear hb1
    obtain ⟨x0a, x0b, x0c, -⟩ := id F_g.out
    go_wp2_with fail
    go_ret2
    exact ⟨rfl, HBW.out⟩
  case pos =>
    subst hf
    have hH : Has P Q G := by
      unfold keyS at hk
      split at hk
      · assumption
      · cases hk
    obtain ⟨p5, p3, hQ', pq, g2, gP⟩ := id hH
    have q3 : Q < 1073741824 := by omega
    have g0 : 0 ≤ G := by omega
    have HH := Lib.hid hH
    clear pq hH hk
    by_cases hs : s < Q
    case neg =>
      obtain ⟨rfl, rfl⟩ := Prod.mk.inj (show (false, 2) = (v, er) by rw [← hr]; simp [hs])
      have d1 : decide (Q ≤ s) = true := by simp; omega
      clear hr
      have F_g := Lib.hid (show Boxed (w.alloc (.cells #[.int .u64 P, .int .u64 Q, .int .u64 G] 24)) (w.heap.size) P Q G from Boxed.at _ P Q G _ (w.heap.size) (by simp))
      have HBW := Lib.hid (show Below w.heap.size w (w.alloc (.cells #[.int .u64 P, .int .u64 Q, .int .u64 G] 24)) from (Below.refl _ _).alloc (by simp <;> omega) _)
      go_enter Try.func26, Try.ntmps26
      obtain ⟨x0a, x0b, x0c, -⟩ := id F_g.out
      go_wp2_with fail
      clear x0a x0b x0c
      refine (rKey_any _ hP hQ hG il iu (HS.out.keep HBW.out) hn HX.out HK.out).mono ?_
      rintro e w1 ⟨rfl, hb1⟩
      replace F_g := Lib.hid (F_g.out.keep hb1)
      replace HBW := Lib.hid (HBW.out.trans (hb1.mono HBW.out.size))
      clear hb1
      obtain ⟨x0a, x0b, x0c, -⟩ := id F_g.out
      go_wp2_with fail
      go_ret2
      exact ⟨rfl, HBW.out⟩
    case pos =>
      have d1 : decide (Q ≤ s) = false := by simp; omega
      obtain ⟨t, ht⟩ : ∃ t, powm G s P = t := ⟨_, rfl⟩
      have HT := Lib.hid ht
      by_cases he : t = k
      case neg =>
        obtain ⟨rfl, rfl⟩ := Prod.mk.inj (show (false, 0) = (v, er) by rw [← hr]; simp [hs, ht, he])
        have d2 : (t == k) = false := by simpa using he
        clear hr ht he
        have F_g := Lib.hid (show Boxed (w.alloc (.cells #[.int .u64 P, .int .u64 Q, .int .u64 G] 24)) (w.heap.size) P Q G from Boxed.at _ P Q G _ (w.heap.size) (by simp))
        have HBW := Lib.hid (show Below w.heap.size w (w.alloc (.cells #[.int .u64 P, .int .u64 Q, .int .u64 G] 24)) from (Below.refl _ _).alloc (by simp <;> omega) _)
        go_enter Try.func26, Try.ntmps26
        obtain ⟨x0a, x0b, x0c, -⟩ := id F_g.out
        go_wp2_with fail
        clear x0a x0b x0c
        refine (rKey_any _ hP hQ hG il iu (HS.out.keep HBW.out) hn HX.out HK.out).mono ?_
        rintro e w1 ⟨rfl, hb1⟩
        replace F_g := Lib.hid (F_g.out.keep hb1)
        replace HBW := Lib.hid (HBW.out.trans (hb1.mono HBW.out.size))
        clear hb1
        obtain ⟨x0a, x0b, x0c, -⟩ := id F_g.out
        go_wp2_with fail
        clear x0a x0b x0c
        refine (r31Power_any _ (by omega) (by omega) g0 (by omega) US.out HT.out).mono ?_
        rintro e w2 ⟨rfl, hb2⟩
        replace F_g := Lib.hid (F_g.out.keep hb2)
        replace HBW := Lib.hid (HBW.out.trans (hb2.mono HBW.out.size))
        clear hb2
        obtain ⟨x0a, x0b, x0c, -⟩ := id F_g.out
        go_wp2_with fail
        go_ret2
        exact ⟨rfl, HBW.out⟩
      case pos =>
        obtain ⟨rfl, rfl⟩ := Prod.mk.inj (show (true, 0) = (v, er) by rw [← hr]; simp [hs, ht, he])
        have d2 : (t == k) = true := by simpa using he
        clear hr ht he
        have F_g := Lib.hid (show Boxed (w.alloc (.cells #[.int .u64 P, .int .u64 Q, .int .u64 G] 24)) (w.heap.size) P Q G from Boxed.at _ P Q G _ (w.heap.size) (by simp))
        have HBW := Lib.hid (show Below w.heap.size w (w.alloc (.cells #[.int .u64 P, .int .u64 Q, .int .u64 G] 24)) from (Below.refl _ _).alloc (by simp <;> omega) _)
        go_enter Try.func26, Try.ntmps26
        obtain ⟨x0a, x0b, x0c, -⟩ := id F_g.out
        go_wp2_with fail
        clear x0a x0b x0c
        refine (rKey_any _ hP hQ hG il iu (HS.out.keep HBW.out) hn HX.out HK.out).mono ?_
        rintro e w1 ⟨rfl, hb1⟩
        replace F_g := Lib.hid (F_g.out.keep hb1)
        replace HBW := Lib.hid (HBW.out.trans (hb1.mono HBW.out.size))
        clear hb1
        obtain ⟨x0a, x0b, x0c, -⟩ := id F_g.out
        go_wp2_with fail
        clear x0a x0b x0c
        refine (r31Power_any _ (by omega) (by omega) g0 (by omega) US.out HT.out).mono ?_
        rintro e w2 ⟨rfl, hb2⟩
        replace F_g := Lib.hid (F_g.out.keep hb2)
        replace HBW := Lib.hid (HBW.out.trans (hb2.mono HBW.out.size))
        clear hb2
        obtain ⟨x0a, x0b, x0c, -⟩ := id F_g.out
        go_wp2_with fail
        go_ret2
        exact ⟨rfl, HBW.out⟩
end Go.Proofs.Ytjfaaicbojnpaaa
