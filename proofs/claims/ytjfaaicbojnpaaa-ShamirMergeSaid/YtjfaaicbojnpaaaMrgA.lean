/- Rows of deals; which deals fit together. -/
import Derived.Test.YtjfaaicbojnpaaaShLaw
import Derived.Test.YtjfaaicbojnpaaaOwnN
namespace Go.Proofs.Ytjfaaicbojnpaaa
open Go.RowKit Num
set_option linter.unusedSimpArgs false
set_option linter.unusedVariables false

/-- A deal by value: two slices. -/
structure Dl where
  a : Option Addr
  n : Nat
  c : Nat
  xs : List Int
  b : Option Addr
  m : Nat
  d : Nat
  ys : List Int
def Dl.v (D : Dl) : Value := .agg #[.slice D.a D.n D.c, .slice D.b D.m D.d]
/-- What its slices hold. -/
structure DlIn (W : World) (D : Dl) : Prop where
  h1 : ShI .u64 W D.a D.n D.xs
  h2 : ShI .u64 W D.b D.m D.ys
  n1 : D.n ≤ 1000000
  n2 : D.m ≤ 1000000
  u1 : ∀ x, x ∈ D.xs → U64 x
  u2 : ∀ x, x ∈ D.ys → U64 x
theorem DlIn.keep {W W' : World} {D : Dl} (h : DlIn W D) (hb : Below W.heap.size W W') : DlIn W' D := ⟨h.h1.keep hb, h.h2.keep hb, h.n1, h.n2, h.u1, h.u2⟩
theorem DlIn.drew {W : World} {D : Dl} (h : DlIn W D) : DlIn W.drew D := h.keep (Below.refl _ _).drew
/-- A row of deals in a block. -/
structure DRow (W : World) (s o : Nat) (l : List Dl) : Prop where
  lt : s < W.heap.size
  c : ∀ i (h : i < l.length), W.cell? ⟨s, o + i * 2, none⟩ = some (.slice l[i].a l[i].n l[i].c) ∧ W.cell? ⟨s, o + i * 2 + 1, none⟩ = some (.slice l[i].b l[i].m l[i].d)
  ok : ∀ D, D ∈ l → DlIn W D
theorem DRow.keep {W W' : World} {s o : Nat} {l : List Dl} (h : DRow W s o l) (hb : Below W.heap.size W W') : DRow W' s o l :=
  ⟨Nat.lt_of_lt_of_le h.lt hb.size, fun i hi => ⟨(hb.cell (p := ⟨s, o + i * 2, none⟩) h.lt).trans (h.c i hi).1, (hb.cell (p := ⟨s, o + i * 2 + 1, none⟩) h.lt).trans (h.c i hi).2⟩, fun D hD => (h.ok D hD).keep hb⟩
theorem DRow.drew {W : World} {s o : Nat} {l : List Dl} (h : DRow W s o l) : DRow W.drew s o l := h.keep (Below.refl _ _).drew
theorem DRow.alloc {W : World} {s o : Nat} {l : List Dl} (h : DRow W s o l) (x : Obj) : DRow (W.alloc x) s o l := h.keep ((Below.refl _ _).alloc (Nat.le_refl _) x)
/-- Is a deal whole, and like another? -/
def fitsS (P Q : Int) (xs ys es fs : List Int) : Bool :=
  belowS P xs && (belowS Q ys && (decide (xs.length ≤ ys.length) && (decide (xs.length = es.length) && decide (ys.length = fs.length))))
def mallS (P Q : Int) (E : Dl) (l : List Dl) : Bool := l.all fun D => fitsS P Q D.xs D.ys E.xs E.ys

set_option maxRecDepth 100000 in
set_option maxHeartbeats 8000000 in
theorem fits_any {P Q G : Int} {a b a' b' : Option Addr} {n c m d n' c' m' d' : Nat} {xs ys es fs : List Int} {v : Bool} (w : World) (h1 : ShI .u64 w a n xs) (h2 : ShI .u64 w b m ys) (l1 : n' = es.length) (l2 : m' = fs.length) (hv : fitsS P Q xs ys es fs = v) :
    Calls Try.prog 49 #[.agg #[.int .u64 P, .int .u64 Q, .int .u64 G], .agg #[.slice a n c, .slice b m d], .agg #[.slice a' n' c', .slice b' m' d']] w fun e w' => e = .returned (.bool v) ∧ Below w.heap.size w w' := by
  have H1 := Lib.hid h1
  have H2 := Lib.hid h2
  have e1 := h1.len
  have e2 := h2.len
  cases hb1 : belowS P xs with
  | false =>
    obtain rfl : false = v := by rw [← hv]; simp [fitsS, hb1]
    have HB1 := Lib.hid hb1
    clear hb1 h1 h2 l1 l2 e1 e2 hv
    have F_g := Lib.hid (show Boxed (((w.alloc (.cells #[.int .u64 P, .int .u64 Q, .int .u64 G] 24)).alloc (.cells #[.slice a n c, .slice b m d] 27)).alloc (.cells #[.slice a' n' c', .slice b' m' d'] 27)) w.heap.size P Q G from ((Boxed.at _ P Q G _ w.heap.size (by simp)).alloc _).alloc _)
    have F_x := Lib.hid (show DealBox (((w.alloc (.cells #[.int .u64 P, .int .u64 Q, .int .u64 G] 24)).alloc (.cells #[.slice a n c, .slice b m d] 27)).alloc (.cells #[.slice a' n' c', .slice b' m' d'] 27)) (w.heap.size + 1) (.slice a n c) (.slice b m d) from (DealBox.at _ _ _ _ (w.heap.size + 1) (by simp)).alloc _)
    have F_y := Lib.hid (show DealBox (((w.alloc (.cells #[.int .u64 P, .int .u64 Q, .int .u64 G] 24)).alloc (.cells #[.slice a n c, .slice b m d] 27)).alloc (.cells #[.slice a' n' c', .slice b' m' d'] 27)) (w.heap.size + 1 + 1) (.slice a' n' c') (.slice b' m' d') from DealBox.at _ _ _ _ (w.heap.size + 1 + 1) (by simp))
    have HBW := Lib.hid (show Below w.heap.size w (((w.alloc (.cells #[.int .u64 P, .int .u64 Q, .int .u64 G] 24)).alloc (.cells #[.slice a n c, .slice b m d] 27)).alloc (.cells #[.slice a' n' c', .slice b' m' d'] 27)) from (((Below.refl _ _).alloc (by simp <;> omega) _).alloc (by simp <;> omega) _).alloc (by simp <;> omega) _)
    go_enter Try.func49, Try.ntmps49
    obtain ⟨g0, g1, g2, -⟩ := id F_g.out
    obtain ⟨x0, x1, -⟩ := id F_x.out
    obtain ⟨y0, y1, -⟩ := id F_y.out
    go_wp2_with fail
    clear g0 g1 g2 x0 x1 y0 y1
    refine (sbelow_any _ (H1.out.keep HBW.out) HB1.out).mono ?_
    rintro e w1 ⟨rfl, hb1⟩
    replace F_g := Lib.hid (F_g.out.keep hb1)
    replace F_x := Lib.hid (F_x.out.keep hb1)
    replace F_y := Lib.hid (F_y.out.keep hb1)
    replace HBW := Lib.hid (HBW.out.trans (hb1.mono HBW.out.size))
    clear hb1
    obtain ⟨g0, g1, g2, -⟩ := id F_g.out
    obtain ⟨x0, x1, -⟩ := id F_x.out
    obtain ⟨y0, y1, -⟩ := id F_y.out
    go_wp2_with fail
    clear g0 g1 g2 x0 x1 y0 y1
    go_ret
    exact ⟨rfl, HBW.out⟩
  | true =>
    cases hb2 : belowS Q ys with
    | false =>
      obtain rfl : false = v := by rw [← hv]; simp [fitsS, hb2]
      have HB1 := Lib.hid hb1
      have HB2 := Lib.hid hb2
      clear hb1 hb2 h1 h2 l1 l2 e1 e2 hv
      have F_g := Lib.hid (show Boxed (((w.alloc (.cells #[.int .u64 P, .int .u64 Q, .int .u64 G] 24)).alloc (.cells #[.slice a n c, .slice b m d] 27)).alloc (.cells #[.slice a' n' c', .slice b' m' d'] 27)) w.heap.size P Q G from ((Boxed.at _ P Q G _ w.heap.size (by simp)).alloc _).alloc _)
      have F_x := Lib.hid (show DealBox (((w.alloc (.cells #[.int .u64 P, .int .u64 Q, .int .u64 G] 24)).alloc (.cells #[.slice a n c, .slice b m d] 27)).alloc (.cells #[.slice a' n' c', .slice b' m' d'] 27)) (w.heap.size + 1) (.slice a n c) (.slice b m d) from (DealBox.at _ _ _ _ (w.heap.size + 1) (by simp)).alloc _)
      have F_y := Lib.hid (show DealBox (((w.alloc (.cells #[.int .u64 P, .int .u64 Q, .int .u64 G] 24)).alloc (.cells #[.slice a n c, .slice b m d] 27)).alloc (.cells #[.slice a' n' c', .slice b' m' d'] 27)) (w.heap.size + 1 + 1) (.slice a' n' c') (.slice b' m' d') from DealBox.at _ _ _ _ (w.heap.size + 1 + 1) (by simp))
      have HBW := Lib.hid (show Below w.heap.size w (((w.alloc (.cells #[.int .u64 P, .int .u64 Q, .int .u64 G] 24)).alloc (.cells #[.slice a n c, .slice b m d] 27)).alloc (.cells #[.slice a' n' c', .slice b' m' d'] 27)) from (((Below.refl _ _).alloc (by simp <;> omega) _).alloc (by simp <;> omega) _).alloc (by simp <;> omega) _)
      go_enter Try.func49, Try.ntmps49
      obtain ⟨g0, g1, g2, -⟩ := id F_g.out
      obtain ⟨x0, x1, -⟩ := id F_x.out
      obtain ⟨y0, y1, -⟩ := id F_y.out
      go_wp2_with fail
      clear g0 g1 g2 x0 x1 y0 y1
      refine (sbelow_any _ (H1.out.keep HBW.out) HB1.out).mono ?_
      rintro e w1 ⟨rfl, hb1⟩
      replace F_g := Lib.hid (F_g.out.keep hb1)
      replace F_x := Lib.hid (F_x.out.keep hb1)
      replace F_y := Lib.hid (F_y.out.keep hb1)
      replace HBW := Lib.hid (HBW.out.trans (hb1.mono HBW.out.size))
      clear hb1
      obtain ⟨g0, g1, g2, -⟩ := id F_g.out
      obtain ⟨x0, x1, -⟩ := id F_x.out
      obtain ⟨y0, y1, -⟩ := id F_y.out
      go_wp2_with fail
      clear g0 g1 g2 x0 x1 y0 y1
      refine (sbelow_any _ (H2.out.keep HBW.out) HB2.out).mono ?_
      rintro e w2 ⟨rfl, hb2⟩
      replace F_g := Lib.hid (F_g.out.keep hb2)
      replace F_x := Lib.hid (F_x.out.keep hb2)
      replace F_y := Lib.hid (F_y.out.keep hb2)
      replace HBW := Lib.hid (HBW.out.trans (hb2.mono HBW.out.size))
      clear hb2
      obtain ⟨g0, g1, g2, -⟩ := id F_g.out
      obtain ⟨x0, x1, -⟩ := id F_x.out
      obtain ⟨y0, y1, -⟩ := id F_y.out
      go_wp2_with fail
      clear g0 g1 g2 x0 x1 y0 y1
      go_ret
      exact ⟨rfl, HBW.out⟩
    | true =>
      have HB1 := Lib.hid hb1
      have HB2 := Lib.hid hb2
      have hv' : (decide (n ≤ m) && (decide (n = n') && decide (m = m'))) = v := by rw [← hv, e1, e2, l1, l2]; simp [fitsS, hb1, hb2]
      clear hb1 hb2 h1 h2 l1 l2 e1 e2 hv
      by_cases k1 : n ≤ m
      case neg =>
        obtain rfl : false = v := by rw [← hv']; simp [k1]
        have d1 : decide ((n : Int) ≤ (m : Int)) = false := by simp; omega
        have d1n : decide (n ≤ m) = false := by simpa using k1
        clear hv'
        have F_g := Lib.hid (show Boxed (((w.alloc (.cells #[.int .u64 P, .int .u64 Q, .int .u64 G] 24)).alloc (.cells #[.slice a n c, .slice b m d] 27)).alloc (.cells #[.slice a' n' c', .slice b' m' d'] 27)) w.heap.size P Q G from ((Boxed.at _ P Q G _ w.heap.size (by simp)).alloc _).alloc _)
        have F_x := Lib.hid (show DealBox (((w.alloc (.cells #[.int .u64 P, .int .u64 Q, .int .u64 G] 24)).alloc (.cells #[.slice a n c, .slice b m d] 27)).alloc (.cells #[.slice a' n' c', .slice b' m' d'] 27)) (w.heap.size + 1) (.slice a n c) (.slice b m d) from (DealBox.at _ _ _ _ (w.heap.size + 1) (by simp)).alloc _)
        have F_y := Lib.hid (show DealBox (((w.alloc (.cells #[.int .u64 P, .int .u64 Q, .int .u64 G] 24)).alloc (.cells #[.slice a n c, .slice b m d] 27)).alloc (.cells #[.slice a' n' c', .slice b' m' d'] 27)) (w.heap.size + 1 + 1) (.slice a' n' c') (.slice b' m' d') from DealBox.at _ _ _ _ (w.heap.size + 1 + 1) (by simp))
        have HBW := Lib.hid (show Below w.heap.size w (((w.alloc (.cells #[.int .u64 P, .int .u64 Q, .int .u64 G] 24)).alloc (.cells #[.slice a n c, .slice b m d] 27)).alloc (.cells #[.slice a' n' c', .slice b' m' d'] 27)) from (((Below.refl _ _).alloc (by simp <;> omega) _).alloc (by simp <;> omega) _).alloc (by simp <;> omega) _)
        go_enter Try.func49, Try.ntmps49
        obtain ⟨g0, g1, g2, -⟩ := id F_g.out
        obtain ⟨x0, x1, -⟩ := id F_x.out
        obtain ⟨y0, y1, -⟩ := id F_y.out
        go_wp2_with fail
        clear g0 g1 g2 x0 x1 y0 y1
        refine (sbelow_any _ (H1.out.keep HBW.out) HB1.out).mono ?_
        rintro e w1 ⟨rfl, hb1⟩
        replace F_g := Lib.hid (F_g.out.keep hb1)
        replace F_x := Lib.hid (F_x.out.keep hb1)
        replace F_y := Lib.hid (F_y.out.keep hb1)
        replace HBW := Lib.hid (HBW.out.trans (hb1.mono HBW.out.size))
        clear hb1
        obtain ⟨g0, g1, g2, -⟩ := id F_g.out
        obtain ⟨x0, x1, -⟩ := id F_x.out
        obtain ⟨y0, y1, -⟩ := id F_y.out
        go_wp2_with fail
        clear g0 g1 g2 x0 x1 y0 y1
        refine (sbelow_any _ (H2.out.keep HBW.out) HB2.out).mono ?_
        rintro e w2 ⟨rfl, hb2⟩
        replace F_g := Lib.hid (F_g.out.keep hb2)
        replace F_x := Lib.hid (F_x.out.keep hb2)
        replace F_y := Lib.hid (F_y.out.keep hb2)
        replace HBW := Lib.hid (HBW.out.trans (hb2.mono HBW.out.size))
        clear hb2
        obtain ⟨g0, g1, g2, -⟩ := id F_g.out
        obtain ⟨x0, x1, -⟩ := id F_x.out
        obtain ⟨y0, y1, -⟩ := id F_y.out
        go_wp2_with fail
        clear g0 g1 g2 x0 x1 y0 y1
        go_ret
        exact ⟨rfl, HBW.out⟩
      case pos =>
        have d1 : decide ((n : Int) ≤ (m : Int)) = true := by simp; omega
        have d1n : decide (n ≤ m) = true := by simpa using k1
        by_cases k2 : n = n'
        case neg =>
          obtain rfl : false = v := by rw [← hv']; simp [k2]
          have d2 : ((n : Int) == (n' : Int)) = false := by simp; omega
          have d2n : (n == n') = false := by simpa using k2
          clear hv' k2
          have F_g := Lib.hid (show Boxed (((w.alloc (.cells #[.int .u64 P, .int .u64 Q, .int .u64 G] 24)).alloc (.cells #[.slice a n c, .slice b m d] 27)).alloc (.cells #[.slice a' n' c', .slice b' m' d'] 27)) w.heap.size P Q G from ((Boxed.at _ P Q G _ w.heap.size (by simp)).alloc _).alloc _)
          have F_x := Lib.hid (show DealBox (((w.alloc (.cells #[.int .u64 P, .int .u64 Q, .int .u64 G] 24)).alloc (.cells #[.slice a n c, .slice b m d] 27)).alloc (.cells #[.slice a' n' c', .slice b' m' d'] 27)) (w.heap.size + 1) (.slice a n c) (.slice b m d) from (DealBox.at _ _ _ _ (w.heap.size + 1) (by simp)).alloc _)
          have F_y := Lib.hid (show DealBox (((w.alloc (.cells #[.int .u64 P, .int .u64 Q, .int .u64 G] 24)).alloc (.cells #[.slice a n c, .slice b m d] 27)).alloc (.cells #[.slice a' n' c', .slice b' m' d'] 27)) (w.heap.size + 1 + 1) (.slice a' n' c') (.slice b' m' d') from DealBox.at _ _ _ _ (w.heap.size + 1 + 1) (by simp))
          have HBW := Lib.hid (show Below w.heap.size w (((w.alloc (.cells #[.int .u64 P, .int .u64 Q, .int .u64 G] 24)).alloc (.cells #[.slice a n c, .slice b m d] 27)).alloc (.cells #[.slice a' n' c', .slice b' m' d'] 27)) from (((Below.refl _ _).alloc (by simp <;> omega) _).alloc (by simp <;> omega) _).alloc (by simp <;> omega) _)
          go_enter Try.func49, Try.ntmps49
          obtain ⟨g0, g1, g2, -⟩ := id F_g.out
          obtain ⟨x0, x1, -⟩ := id F_x.out
          obtain ⟨y0, y1, -⟩ := id F_y.out
          go_wp2_with fail
          clear g0 g1 g2 x0 x1 y0 y1
          refine (sbelow_any _ (H1.out.keep HBW.out) HB1.out).mono ?_
          rintro e w1 ⟨rfl, hb1⟩
          replace F_g := Lib.hid (F_g.out.keep hb1)
          replace F_x := Lib.hid (F_x.out.keep hb1)
          replace F_y := Lib.hid (F_y.out.keep hb1)
          replace HBW := Lib.hid (HBW.out.trans (hb1.mono HBW.out.size))
          clear hb1
          obtain ⟨g0, g1, g2, -⟩ := id F_g.out
          obtain ⟨x0, x1, -⟩ := id F_x.out
          obtain ⟨y0, y1, -⟩ := id F_y.out
          go_wp2_with fail
          clear g0 g1 g2 x0 x1 y0 y1
          refine (sbelow_any _ (H2.out.keep HBW.out) HB2.out).mono ?_
          rintro e w2 ⟨rfl, hb2⟩
          replace F_g := Lib.hid (F_g.out.keep hb2)
          replace F_x := Lib.hid (F_x.out.keep hb2)
          replace F_y := Lib.hid (F_y.out.keep hb2)
          replace HBW := Lib.hid (HBW.out.trans (hb2.mono HBW.out.size))
          clear hb2
          obtain ⟨g0, g1, g2, -⟩ := id F_g.out
          obtain ⟨x0, x1, -⟩ := id F_x.out
          obtain ⟨y0, y1, -⟩ := id F_y.out
          go_wp2_with fail
          clear g0 g1 g2 x0 x1 y0 y1
          go_ret
          exact ⟨rfl, HBW.out⟩
        case pos =>
          by_cases k3 : m = m'
          case neg =>
            obtain rfl : false = v := by rw [← hv']; simp [k3]
            have d2 : ((n : Int) == (n' : Int)) = true := by simp; omega
            have d2n : (n == n') = true := by simpa using k2
            have d3 : ((m : Int) == (m' : Int)) = false := by simp; omega
            have d3n : (m == m') = false := by simpa using k3
            clear hv' k2 k3
            have F_g := Lib.hid (show Boxed (((w.alloc (.cells #[.int .u64 P, .int .u64 Q, .int .u64 G] 24)).alloc (.cells #[.slice a n c, .slice b m d] 27)).alloc (.cells #[.slice a' n' c', .slice b' m' d'] 27)) w.heap.size P Q G from ((Boxed.at _ P Q G _ w.heap.size (by simp)).alloc _).alloc _)
            have F_x := Lib.hid (show DealBox (((w.alloc (.cells #[.int .u64 P, .int .u64 Q, .int .u64 G] 24)).alloc (.cells #[.slice a n c, .slice b m d] 27)).alloc (.cells #[.slice a' n' c', .slice b' m' d'] 27)) (w.heap.size + 1) (.slice a n c) (.slice b m d) from (DealBox.at _ _ _ _ (w.heap.size + 1) (by simp)).alloc _)
            have F_y := Lib.hid (show DealBox (((w.alloc (.cells #[.int .u64 P, .int .u64 Q, .int .u64 G] 24)).alloc (.cells #[.slice a n c, .slice b m d] 27)).alloc (.cells #[.slice a' n' c', .slice b' m' d'] 27)) (w.heap.size + 1 + 1) (.slice a' n' c') (.slice b' m' d') from DealBox.at _ _ _ _ (w.heap.size + 1 + 1) (by simp))
            have HBW := Lib.hid (show Below w.heap.size w (((w.alloc (.cells #[.int .u64 P, .int .u64 Q, .int .u64 G] 24)).alloc (.cells #[.slice a n c, .slice b m d] 27)).alloc (.cells #[.slice a' n' c', .slice b' m' d'] 27)) from (((Below.refl _ _).alloc (by simp <;> omega) _).alloc (by simp <;> omega) _).alloc (by simp <;> omega) _)
            go_enter Try.func49, Try.ntmps49
            obtain ⟨g0, g1, g2, -⟩ := id F_g.out
            obtain ⟨x0, x1, -⟩ := id F_x.out
            obtain ⟨y0, y1, -⟩ := id F_y.out
            go_wp2_with fail
            clear g0 g1 g2 x0 x1 y0 y1
            refine (sbelow_any _ (H1.out.keep HBW.out) HB1.out).mono ?_
            rintro e w1 ⟨rfl, hb1⟩
            replace F_g := Lib.hid (F_g.out.keep hb1)
            replace F_x := Lib.hid (F_x.out.keep hb1)
            replace F_y := Lib.hid (F_y.out.keep hb1)
            replace HBW := Lib.hid (HBW.out.trans (hb1.mono HBW.out.size))
            clear hb1
            obtain ⟨g0, g1, g2, -⟩ := id F_g.out
            obtain ⟨x0, x1, -⟩ := id F_x.out
            obtain ⟨y0, y1, -⟩ := id F_y.out
            go_wp2_with fail
            clear g0 g1 g2 x0 x1 y0 y1
            refine (sbelow_any _ (H2.out.keep HBW.out) HB2.out).mono ?_
            rintro e w2 ⟨rfl, hb2⟩
            replace F_g := Lib.hid (F_g.out.keep hb2)
            replace F_x := Lib.hid (F_x.out.keep hb2)
            replace F_y := Lib.hid (F_y.out.keep hb2)
            replace HBW := Lib.hid (HBW.out.trans (hb2.mono HBW.out.size))
            clear hb2
            obtain ⟨g0, g1, g2, -⟩ := id F_g.out
            obtain ⟨x0, x1, -⟩ := id F_x.out
            obtain ⟨y0, y1, -⟩ := id F_y.out
            go_wp2_with fail
            clear g0 g1 g2 x0 x1 y0 y1
            go_ret
            exact ⟨rfl, HBW.out⟩
          case pos =>
            obtain rfl : true = v := by rw [← hv', decide_eq_true k1, decide_eq_true k2, decide_eq_true k3]; rfl
            have d2 : ((n : Int) == (n' : Int)) = true := by simp; omega
            have d2n : (n == n') = true := by simpa using k2
            have d3 : ((m : Int) == (m' : Int)) = true := by simp; omega
            have d3n : (m == m') = true := by simpa using k3
            clear hv' k2 k3
            have F_g := Lib.hid (show Boxed (((w.alloc (.cells #[.int .u64 P, .int .u64 Q, .int .u64 G] 24)).alloc (.cells #[.slice a n c, .slice b m d] 27)).alloc (.cells #[.slice a' n' c', .slice b' m' d'] 27)) w.heap.size P Q G from ((Boxed.at _ P Q G _ w.heap.size (by simp)).alloc _).alloc _)
            have F_x := Lib.hid (show DealBox (((w.alloc (.cells #[.int .u64 P, .int .u64 Q, .int .u64 G] 24)).alloc (.cells #[.slice a n c, .slice b m d] 27)).alloc (.cells #[.slice a' n' c', .slice b' m' d'] 27)) (w.heap.size + 1) (.slice a n c) (.slice b m d) from (DealBox.at _ _ _ _ (w.heap.size + 1) (by simp)).alloc _)
            have F_y := Lib.hid (show DealBox (((w.alloc (.cells #[.int .u64 P, .int .u64 Q, .int .u64 G] 24)).alloc (.cells #[.slice a n c, .slice b m d] 27)).alloc (.cells #[.slice a' n' c', .slice b' m' d'] 27)) (w.heap.size + 1 + 1) (.slice a' n' c') (.slice b' m' d') from DealBox.at _ _ _ _ (w.heap.size + 1 + 1) (by simp))
            have HBW := Lib.hid (show Below w.heap.size w (((w.alloc (.cells #[.int .u64 P, .int .u64 Q, .int .u64 G] 24)).alloc (.cells #[.slice a n c, .slice b m d] 27)).alloc (.cells #[.slice a' n' c', .slice b' m' d'] 27)) from (((Below.refl _ _).alloc (by simp <;> omega) _).alloc (by simp <;> omega) _).alloc (by simp <;> omega) _)
            go_enter Try.func49, Try.ntmps49
            obtain ⟨g0, g1, g2, -⟩ := id F_g.out
            obtain ⟨x0, x1, -⟩ := id F_x.out
            obtain ⟨y0, y1, -⟩ := id F_y.out
            go_wp2_with fail
            clear g0 g1 g2 x0 x1 y0 y1
            refine (sbelow_any _ (H1.out.keep HBW.out) HB1.out).mono ?_
            rintro e w1 ⟨rfl, hb1⟩
            replace F_g := Lib.hid (F_g.out.keep hb1)
            replace F_x := Lib.hid (F_x.out.keep hb1)
            replace F_y := Lib.hid (F_y.out.keep hb1)
            replace HBW := Lib.hid (HBW.out.trans (hb1.mono HBW.out.size))
            clear hb1
            obtain ⟨g0, g1, g2, -⟩ := id F_g.out
            obtain ⟨x0, x1, -⟩ := id F_x.out
            obtain ⟨y0, y1, -⟩ := id F_y.out
            go_wp2_with fail
            clear g0 g1 g2 x0 x1 y0 y1
            refine (sbelow_any _ (H2.out.keep HBW.out) HB2.out).mono ?_
            rintro e w2 ⟨rfl, hb2⟩
            replace F_g := Lib.hid (F_g.out.keep hb2)
            replace F_x := Lib.hid (F_x.out.keep hb2)
            replace F_y := Lib.hid (F_y.out.keep hb2)
            replace HBW := Lib.hid (HBW.out.trans (hb2.mono HBW.out.size))
            clear hb2
            obtain ⟨g0, g1, g2, -⟩ := id F_g.out
            obtain ⟨x0, x1, -⟩ := id F_x.out
            obtain ⟨y0, y1, -⟩ := id F_y.out
            go_wp2_with fail
            clear g0 g1 g2 x0 x1 y0 y1
            go_ret
            exact ⟨rfl, HBW.out⟩

set_option maxRecDepth 100000 in
set_option maxHeartbeats 8000000 in
theorem merge1_any {P Q G : Int} {bg bl s o k cap : Nat} {l : List Dl} {D E : Dl} {v : Bool} (w : World) (hg : Boxed w bg P Q G) (hl : w.cell? ⟨bl, 0, none⟩ = some (.slice (some ⟨s, o, none⟩) k cap)) (hll : bl < w.heap.size) (hr : DRow w s o l) (h0 : l[0]? = some E) (hk : k = l.length) (hD : DlIn w D) (hv : fitsS P Q D.xs D.ys E.xs E.ys = v) :
    Calls Try.prog 48 #[.agg #[.slice D.a D.n D.c, .slice D.b D.m D.d], .pointer (some ⟨bg, 0, none⟩), .pointer (some ⟨bl, 0, none⟩)] w fun e w' => e = .returned (.bool (!v)) ∧ Below w.heap.size w w' := by
  have HG := Lib.hid hg
  have HLC := Lib.hid hl
  have HD := Lib.hid hD
  obtain ⟨h1, hE⟩ := List.getElem?_eq_some_iff.1 h0
  have HE0 := Lib.hid (show w.cell? ⟨s, o, none⟩ = some (.slice E.a E.n E.c) by have := (hr.c 0 h1).1; rwa [hE, Nat.zero_mul, Nat.add_zero] at this)
  have HE1 := Lib.hid (show w.cell? ⟨s, o + 1, none⟩ = some (.slice E.b E.m E.d) by have := (hr.c 0 h1).2; rwa [hE, Nat.zero_mul, Nat.add_zero] at this)
  have HEI := Lib.hid (show DlIn w E by rw [← hE]; exact hr.ok _ (List.getElem_mem h1))
  have HL1 := Lib.hid HEI.out.h1.len
  have HL2 := Lib.hid HEI.out.h2.len
  have HV := Lib.hid hv
  have hs := hr.lt
  have hk0 : 0 < k := by omega
  have hk1 : (0 : Int) < (k : Int) := by omega
  have c26 : Try.prog.cellsOf 27 = 2 := by kernel_rfl
  clear hg hl hr hD hv hE h1 hk h0
  have F_d := Lib.hid (show DealBox (w.alloc (.cells #[.slice D.a D.n D.c, .slice D.b D.m D.d] 27)) w.heap.size (.slice D.a D.n D.c) (.slice D.b D.m D.d) from DealBox.at _ _ _ _ w.heap.size (by simp))
  have HBW := Lib.hid (show Below w.heap.size w (w.alloc (.cells #[.slice D.a D.n D.c, .slice D.b D.m D.d] 27)) from (Below.refl _ _).alloc (by simp <;> omega) _)
  go_enter Try.func48, Try.ntmps48
  go_wp2_with fail
  replace F_d := Lib.hid F_d.out.drew
  replace HBW := Lib.hid HBW.out.drew
  have hS := And.intro (HG.out.keep HBW.out).s (And.intro ((HBW.out.cell (p := ⟨bl, 0, none⟩) hll).trans HLC.out) (And.intro F_d.out.c0 (And.intro F_d.out.c1 (And.intro ((HBW.out.cell (p := ⟨s, o, none⟩) hs).trans HE0.out) ((HBW.out.cell (p := ⟨s, o + 1, none⟩) hs).trans HE1.out)))))
  refine wp_region_stage 7 (fun w' => SBox w' bg P Q G ∧ w'.cell? ⟨bl, 0, none⟩ = some (.slice (some ⟨s, o, none⟩) k cap) ∧ w'.cell? ⟨w.heap.size, 0, none⟩ = some (.slice D.a D.n D.c) ∧ w'.cell? ⟨w.heap.size, 1, none⟩ = some (.slice D.b D.m D.d) ∧ w'.cell? ⟨s, o, none⟩ = some (.slice E.a E.n E.c) ∧ w'.cell? ⟨s, o + 1, none⟩ = some (.slice E.b E.m E.d)) (by kernel_rfl) ?_
  refine wpAnyB_take (i := 0) (some 5) (Op.load 24 (Operand.tmp 1)) 24 (v := ?_) ⟨_, rfl, rfl, rfl, rfl, rfl⟩ (by kernel_rfl) (by kernel_rfl) (by kernel_rfl) [5, 6, 7] (by kernel_rfl) (fun _ _ _ h => h) hS (fun w' hSw => ?_) ?_
  rotate_left
  · obtain ⟨⟨b0, b1, b2⟩, b3, b4, b5, b6, b7⟩ := hSw
    unfold bareOp
    go_simp
    try with_reducible rfl
  simp only [Act.put, List.setIfInBounds_toArray, List.set_cons_zero, List.set_cons_succ]
  refine wpAnyB_take (i := 1) (some 6) (Op.load 27 (Operand.tmp 3)) 27 (v := ?_) ⟨_, rfl, rfl, rfl, rfl, rfl⟩ (by kernel_rfl) (by kernel_rfl) (by kernel_rfl) [5, 6, 7] (by kernel_rfl) (fun _ _ _ h => h) hS (fun w' hSw => ?_) ?_
  rotate_left
  · obtain ⟨⟨b0, b1, b2⟩, b3, b4, b5, b6, b7⟩ := hSw
    unfold bareOp
    go_simp
    try with_reducible rfl
  simp only [Act.put, List.setIfInBounds_toArray, List.set_cons_zero, List.set_cons_succ]
  refine wpAnyB_take (i := 2) (some 7) (Op.load 33 (Operand.tmp 2)) 33 (v := ?_) ⟨_, rfl, rfl, rfl, rfl, rfl⟩ (by kernel_rfl) (by kernel_rfl) (by kernel_rfl) [3, 4, 5, 6, 7] (by kernel_rfl) (fun _ _ _ h => h) hS (fun w' hSw => ?_) ?_
  rotate_left
  · obtain ⟨⟨b0, b1, b2⟩, b3, b4, b5, b6, b7⟩ := hSw
    unfold bareOp
    go_simp
    try with_reducible rfl
  simp only [Act.put, List.setIfInBounds_toArray, List.set_cons_zero, List.set_cons_succ]
  refine wpAnyB_takeP (i := 3) (some 8) (Op.indexAddr 33 (Operand.tmp 7) (Operand.const (Value.int IntKind.i64 0))) 0 (v := ?_) ⟨_, rfl, rfl, rfl, rfl, rfl⟩ (by kernel_rfl) (by kernel_rfl) (by kernel_rfl) (by kernel_rfl) (fun _ _ _ h => h) (fun _ => hS) (fun w' => ?_) ?_
  rotate_left
  · unfold bareOp
    go_simp
    try with_reducible rfl
  simp only [Act.put, List.setIfInBounds_toArray, List.set_cons_zero, List.set_cons_succ]
  refine wpAnyB_take (i := 4) (some 9) (Op.load 27 (Operand.tmp 8)) 27 (v := ?_) ⟨_, rfl, rfl, rfl, rfl, rfl⟩ (by kernel_rfl) (by kernel_rfl) (by kernel_rfl) [5, 6, 7] (by kernel_rfl) (fun _ _ _ h => h) hS (fun w' hSw => ?_) ?_
  rotate_left
  · obtain ⟨⟨b0, b1, b2⟩, b3, b4, b5, b6, b7⟩ := hSw
    unfold bareOp
    go_simp
    try with_reducible rfl
  simp only [Act.put, List.setIfInBounds_toArray, List.set_cons_zero, List.set_cons_succ]
  refine wpAnyB_only (i := 5) (some 10) (Op.call { callee := Callee.value (Operand.func 49), args := #[Operand.tmp 5, Operand.tmp 6, Operand.tmp 9], argTypes := #[24, 27, 27] }) 4 ⟨_, rfl, rfl, rfl, rfl, rfl⟩ (by kernel_rfl) (fun K hK => ?_)
  unfold bareOp
  go_wp2_with (go_at_call 49; refine (fits_any _ (HD.out.h1.keep HBW.out) (HD.out.h2.keep HBW.out) HL1.out HL2.out HV.out).mono ?_; rintro e w8 ⟨rfl, hb8⟩)
  replace F_d := Lib.hid (F_d.out.keep hb8)
  replace HBW := Lib.hid (HBW.out.trans (hb8.mono HBW.out.size))
  replace hS := And.intro (HG.out.keep HBW.out).s (And.intro ((HBW.out.cell (p := ⟨bl, 0, none⟩) hll).trans HLC.out) (And.intro F_d.out.c0 (And.intro F_d.out.c1 (And.intro ((HBW.out.cell (p := ⟨s, o, none⟩) hs).trans HE0.out) ((HBW.out.cell (p := ⟨s, o + 1, none⟩) hs).trans HE1.out)))))
  clear hb8
  refine hK.out _ _ (fun _ => hS) ?_
  clear hK K
  try simp only [Act.put, List.setIfInBounds_toArray, List.set_cons_zero, List.set_cons_succ]
  refine wpAnyB_takeP (i := 6) (some 11) (Op.unOp UnOp.not 4 (Operand.tmp 10)) 4 (v := ?_) ⟨_, rfl, rfl, rfl, rfl, rfl⟩ (by kernel_rfl) (by kernel_rfl) (by kernel_rfl) (by kernel_rfl) (fun _ _ _ h => h) (fun _ => hS) (fun w' => ?_) ?_
  rotate_left
  · unfold bareOp
    go_simp
    try with_reducible rfl
  simp only [Act.put, List.setIfInBounds_toArray, List.set_cons_zero, List.set_cons_succ]
  refine wpAnyB_only (i := 7) (some 4) (Op.assign (Operand.tmp 11)) 4 ⟨_, rfl, rfl, rfl, rfl, rfl⟩ (by kernel_rfl) (fun K hK => ?_)
  unfold bareOp
  go_wp2_with fail
  refine hK.out _ _ (fun h => absurd (h.symm.trans (by kernel_rfl : _ = true)) (by decide)) ?_
  clear hK K
  try simp only [Act.put, List.setIfInBounds_toArray, List.set_cons_zero, List.set_cons_succ]
  refine wpAnyB_done (by kernel_rfl) ?_ _
  clear hS
  go_wp2_with fail
  go_ret
  exact ⟨rfl, HBW.out⟩

set_option maxRecDepth 100000 in
set_option maxHeartbeats 8000000 in
theorem mindex_any {P Q G : Int} {bg bl s o k cap : Nat} {l : List Dl} {E : Dl} (w : World) (hg : Boxed w bg P Q G) (hl : w.cell? ⟨bl, 0, none⟩ = some (.slice (some ⟨s, o, none⟩) k cap)) (hll : bl < w.heap.size) (hr : DRow w s o l) (h0 : l[0]? = some E) (hk : k = l.length) (hk8 : k ≤ 1000000) :
    Calls Try.prog 82 #[.slice (some ⟨s, o, none⟩) k cap, .func (.func 48) #[] #[.pointer (some ⟨bg, 0, none⟩), .pointer (some ⟨bl, 0, none⟩)]] w fun e w' => ∃ r : Int, e = .returned (.int .i64 r) ∧ decide (0 ≤ r) = !(mallS P Q E l) ∧ Below w.heap.size w w' := by
  have HG := Lib.hid hg
  have HLC := Lib.hid hl
  have HR := Lib.hid hr
  have HK := Lib.hid hk
  have HN := Lib.hid h0
  have hs := hr.lt
  have c26 : Try.prog.cellsOf 27 = 2 := by kernel_rfl
  clear hg hl hr hk h0
  have HBW := Lib.hid (Below.refl w.heap.size w)
  go_enter Try.func82, Try.ntmps82
  go_wp2_with fail
  go_loopw [5, 8] (fun c5 c8 wr => ∃ i : Nat, i ≤ k ∧ c8 = .int .i64 i ∧ Hid (∀ j (h : j < l.length), j < i → fitsS P Q l[j].xs l[j].ys E.xs E.ys = true) ∧ Hid (Below w.heap.size w wr)) (fun _ c8 _ => k - (intOf c8).toNat)
  case atStart => exact ⟨0, Nat.zero_le _, rfl, (fun j h hj => by omega), HBW.out⟩
  case round =>
    clear HBW
    obtain ⟨i, hi, rfl, HA, HBW⟩ := hrel
    by_cases hlt : i < k
    case neg =>
      have HZ := Lib.hid (show (mallS P Q E l) = true by
        rw [mallS, List.all_eq_true]
        intro D hD
        obtain ⟨j, hj, rfl⟩ := List.mem_iff_getElem.1 hD
        exact HA.out j hj (by have := HK.out; omega))
      go_wp2_with fail
      go_ret
      exact ⟨_, rfl, by rw [HZ.out]; rfl, HBW.out⟩
    case pos =>
      have hil : i < l.length := by have := HK.out; omega
      have hi0 : (0 : Int) ≤ (i : Int) := by omega
      have hi1 : (i : Int) < (k : Int) := by omega
      have hwi : IntKind.i64.wrap ((i : Int) + 1) = (i : Int) + 1 := IntWalk.i64_in _ (by omega)
      obtain ⟨D, hD⟩ : ∃ D, l[i] = D := ⟨_, rfl⟩
      have hc0 := (HBW.out.cell (p := ⟨s, o + i * 2, none⟩) hs).trans (HR.out.c i hil).1
      have hc1 := (HBW.out.cell (p := ⟨s, o + i * 2 + 1, none⟩) hs).trans (HR.out.c i hil).2
      rw [hD] at hc0 hc1
      have HDI := Lib.hid (show DlIn w D by rw [← hD]; exact HR.out.ok _ (List.getElem_mem hil))
      obtain ⟨v, hv⟩ : ∃ v, fitsS P Q D.xs D.ys E.xs E.ys = v := ⟨_, rfl⟩
      have HV := Lib.hid hv
      have HDE := Lib.hid hD
      have hsw := HBW.out.size
      clear hD hv
      go_wp2_with fail
      clear hc0 hc1
      refine (merge1_any _ (HG.out.keep HBW.out) ((HBW.out.cell (p := ⟨bl, 0, none⟩) hll).trans HLC.out) (Nat.lt_of_lt_of_le hll HBW.out.size) (HR.out.keep HBW.out) HN.out HK.out (HDI.out.keep HBW.out) HV.out).mono ?_
      rintro e w1 ⟨rfl, hb1⟩
      replace HBW := Lib.hid (HBW.out.trans (hb1.mono HBW.out.size))
      clear hb1 hsw
      cases v with
      | false =>
        have HZ := Lib.hid (show (mallS P Q E l) = false by
          rw [mallS, List.all_eq_false]
          exact ⟨l[i], List.getElem_mem hil, by rw [HDE.out, HV.out]; simp⟩)
        go_wp2_with fail
        go_ret
        exact ⟨_, rfl, by rw [HZ.out]; simp, HBW.out⟩
      | true =>
        have HA2 := Lib.hid (show ∀ j (h : j < l.length), j < i + 1 → fitsS P Q l[j].xs l[j].ys E.xs E.ys = true from fun j h hj => by
          by_cases e : j < i
          · exact HA.out j h e
          · obtain rfl : j = i := by omega
            rw [HDE.out]; exact HV.out)
        go_wp2_with fail
        go_roundw
        case rel => exact ⟨i + 1, by omega, by go_num, HA2.out, HBW.out⟩
        case measure => simp [intOf] <;> omega

set_option maxRecDepth 100000 in
set_option maxHeartbeats 8000000 in
theorem mcontains_any {P Q G : Int} {bg bl s o k cap : Nat} {l : List Dl} {E : Dl} (w : World) (hg : Boxed w bg P Q G) (hl : w.cell? ⟨bl, 0, none⟩ = some (.slice (some ⟨s, o, none⟩) k cap)) (hll : bl < w.heap.size) (hr : DRow w s o l) (h0 : l[0]? = some E) (hk : k = l.length) (hk8 : k ≤ 1000000) :
    Calls Try.prog 50 #[.slice (some ⟨s, o, none⟩) k cap, .func (.func 48) #[] #[.pointer (some ⟨bg, 0, none⟩), .pointer (some ⟨bl, 0, none⟩)]] w fun e w' => e = .returned (.bool (!(mallS P Q E l))) ∧ Below w.heap.size w w' := by
  have HG := Lib.hid hg
  have HLC := Lib.hid hl
  have HR := Lib.hid hr
  have HK := Lib.hid hk
  clear hg hl hr hk
  go_enter Try.func50, Try.ntmps50
  go_wp2_with fail
  refine (mindex_any _ HG.out HLC.out hll HR.out h0 HK.out hk8).mono ?_
  rintro e w1 ⟨r, rfl, hr, hb1⟩
  have HB := Lib.hid hb1
  have HZ := Lib.hid hr
  clear hb1 hr
  go_wp2_with fail
  go_ret
  exact ⟨by rw [← HZ.out]; rfl, HB.out⟩
end Go.Proofs.Ytjfaaicbojnpaaa
