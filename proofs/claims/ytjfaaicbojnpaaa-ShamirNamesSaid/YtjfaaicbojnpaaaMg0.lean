/- Folded: MrgA, MrgB. -/
import Derived.Test.YtjfaaicbojnpaaaShLaw
import Derived.Test.YtjfaaicbojnpaaaOwnN
import Derived.Test.YtjfaaicbojnpaaaShC
import Derived.Test.YtjfaaicbojnpaaaNewt
import Derived.Test.YtjfaaicbojnpaaaStageTwo
import Derived.Deep.Cut
/- Rows of deals; which deals fit together. -/
namespace Go.Proofs.Ytjfaaicbojnpaaa
open Go.RowKit Num
set_option linter.unusedSimpArgs false
set_option linter.unusedVariables false

/-- A deal by value: two slices. -/
structure Dl where
  a : Option Addr
  n : Nat
  c : Nat
  xs : List Int
  b : Option Addr
  m : Nat
  d : Nat
  ys : List Int
def Dl.v (D : Dl) : Value := .agg #[.slice D.a D.n D.c, .slice D.b D.m D.d]
/-- What its slices hold. -/
structure DlIn (W : World) (D : Dl) : Prop where
  h1 : ShI .u64 W D.a D.n D.xs
  h2 : ShI .u64 W D.b D.m D.ys
  n1 : D.n ≤ 1000000
  n2 : D.m ≤ 1000000
  u1 : ∀ x, x ∈ D.xs → U64 x
  u2 : ∀ x, x ∈ D.ys → U64 x
theorem DlIn.keep {W W' : World} {D : Dl} (h : DlIn W D) (hb : Below W.heap.size W W') : DlIn W' D := ⟨h.h1.keep hb, h.h2.keep hb, h.n1, h.n2, h.u1, h.u2⟩
theorem DlIn.drew {W : World} {D : Dl} (h : DlIn W D) : DlIn W.drew D := h.keep (Below.refl _ _).drew
/-- A row of deals in a block. -/
structure DRow (W : World) (s o : Nat) (l : List Dl) : Prop where
  lt : s < W.heap.size
  c : ∀ i (h : i < l.length), W.cell? ⟨s, o + i * 2, none⟩ = some (.slice l[i].a l[i].n l[i].c) ∧ W.cell? ⟨s, o + i * 2 + 1, none⟩ = some (.slice l[i].b l[i].m l[i].d)
  ok : ∀ D, D ∈ l → DlIn W D
theorem DRow.keep {W W' : World} {s o : Nat} {l : List Dl} (h : DRow W s o l) (hb : Below W.heap.size W W') : DRow W' s o l :=
  ⟨Nat.lt_of_lt_of_le h.lt hb.size, fun i hi => ⟨(hb.cell (p := ⟨s, o + i * 2, none⟩) h.lt).trans (h.c i hi).1, (hb.cell (p := ⟨s, o + i * 2 + 1, none⟩) h.lt).trans (h.c i hi).2⟩, fun D hD => (h.ok D hD).keep hb⟩
theorem DRow.drew {W : World} {s o : Nat} {l : List Dl} (h : DRow W s o l) : DRow W.drew s o l := h.keep (Below.refl _ _).drew
theorem DRow.alloc {W : World} {s o : Nat} {l : List Dl} (h : DRow W s o l) (x : Obj) : DRow (W.alloc x) s o l := h.keep ((Below.refl _ _).alloc (Nat.le_refl _) x)
/-- Is a deal whole, and like another? -/
def fitsS (P Q : Int) (xs ys es fs : List Int) : Bool :=
  belowS P xs && (belowS Q ys && (decide (xs.length ≤ ys.length) && (decide (xs.length = es.length) && decide (ys.length = fs.length))))
def mallS (P Q : Int) (E : Dl) (l : List Dl) : Bool := l.all fun D => fitsS P Q D.xs D.ys E.xs E.ys

set_option maxRecDepth 100000 in
set_option maxHeartbeats 8000000 in
theorem fits_any {P Q G : Int} {a b a' b' : Option Addr} {n c m d n' c' m' d' : Nat} {xs ys es fs : List Int} {v : Bool} (w : World) (h1 : ShI .u64 w a n xs) (h2 : ShI .u64 w b m ys) (l1 : n' = es.length) (l2 : m' = fs.length) (hv : fitsS P Q xs ys es fs = v) :
    Calls Try.prog 49 #[.agg #[.int .u64 P, .int .u64 Q, .int .u64 G], .agg #[.slice a n c, .slice b m d], .agg #[.slice a' n' c', .slice b' m' d']] w fun e w' => e = .returned (.bool v) ∧ Below w.heap.size w w' := by
  have H1 := Lib.hid h1
  have H2 := Lib.hid h2
  have e1 := h1.len
  have e2 := h2.len
  cases hb1 : belowS P xs with
  | false =>
    obtain rfl : false = v := by rw [← hv]; simp [fitsS, hb1]
    have HB1 := Lib.hid hb1
    clear hb1 h1 h2 l1 l2 e1 e2 hv
    have F_g := Lib.hid (show Boxed (((w.alloc (.cells #[.int .u64 P, .int .u64 Q, .int .u64 G] 24)).alloc (.cells #[.slice a n c, .slice b m d] 27)).alloc (.cells #[.slice a' n' c', .slice b' m' d'] 27)) w.heap.size P Q G from ((Boxed.at _ P Q G _ w.heap.size (by simp)).alloc _).alloc _)
    have F_x := Lib.hid (show DealBox (((w.alloc (.cells #[.int .u64 P, .int .u64 Q, .int .u64 G] 24)).alloc (.cells #[.slice a n c, .slice b m d] 27)).alloc (.cells #[.slice a' n' c', .slice b' m' d'] 27)) (w.heap.size + 1) (.slice a n c) (.slice b m d) from (DealBox.at _ _ _ _ (w.heap.size + 1) (by simp)).alloc _)
    have F_y := Lib.hid (show DealBox (((w.alloc (.cells #[.int .u64 P, .int .u64 Q, .int .u64 G] 24)).alloc (.cells #[.slice a n c, .slice b m d] 27)).alloc (.cells #[.slice a' n' c', .slice b' m' d'] 27)) (w.heap.size + 1 + 1) (.slice a' n' c') (.slice b' m' d') from DealBox.at _ _ _ _ (w.heap.size + 1 + 1) (by simp))
    have HBW := Lib.hid (show Below w.heap.size w (((w.alloc (.cells #[.int .u64 P, .int .u64 Q, .int .u64 G] 24)).alloc (.cells #[.slice a n c, .slice b m d] 27)).alloc (.cells #[.slice a' n' c', .slice b' m' d'] 27)) from (((Below.refl _ _).alloc (by simp <;> omega) _).alloc (by simp <;> omega) _).alloc (by simp <;> omega) _)
    go_enter Try.func49, Try.ntmps49
    obtain ⟨g0, g1, g2, -⟩ := id F_g.out
    obtain ⟨x0, x1, -⟩ := id F_x.out
    obtain ⟨y0, y1, -⟩ := id F_y.out
    go_wp2_with fail
    clear g0 g1 g2 x0 x1 y0 y1
    refine (sbelow_any _ (H1.out.keep HBW.out) HB1.out).mono ?_
    rintro e w1 ⟨rfl, hb1⟩
    replace F_g := Lib.hid (F_g.out.keep hb1)
    replace F_x := Lib.hid (F_x.out.keep hb1)
    replace F_y := Lib.hid (F_y.out.keep hb1)
    replace HBW := Lib.hid (HBW.out.trans (hb1.mono HBW.out.size))
    clear hb1
    obtain ⟨g0, g1, g2, -⟩ := id F_g.out
    obtain ⟨x0, x1, -⟩ := id F_x.out
    obtain ⟨y0, y1, -⟩ := id F_y.out
    go_wp2_with fail
    clear g0 g1 g2 x0 x1 y0 y1
    go_ret
    exact ⟨rfl, HBW.out⟩
  | true =>
    cases hb2 : belowS Q ys with
    | false =>
      obtain rfl : false = v := by rw [← hv]; simp [fitsS, hb2]
      have HB1 := Lib.hid hb1
      have HB2 := Lib.hid hb2
      clear hb1 hb2 h1 h2 l1 l2 e1 e2 hv
      have F_g := Lib.hid (show Boxed (((w.alloc (.cells #[.int .u64 P, .int .u64 Q, .int .u64 G] 24)).alloc (.cells #[.slice a n c, .slice b m d] 27)).alloc (.cells #[.slice a' n' c', .slice b' m' d'] 27)) w.heap.size P Q G from ((Boxed.at _ P Q G _ w.heap.size (by simp)).alloc _).alloc _)
      have F_x := Lib.hid (show DealBox (((w.alloc (.cells #[.int .u64 P, .int .u64 Q, .int .u64 G] 24)).alloc (.cells #[.slice a n c, .slice b m d] 27)).alloc (.cells #[.slice a' n' c', .slice b' m' d'] 27)) (w.heap.size + 1) (.slice a n c) (.slice b m d) from (DealBox.at _ _ _ _ (w.heap.size + 1) (by simp)).alloc _)
      have F_y := Lib.hid (show DealBox (((w.alloc (.cells #[.int .u64 P, .int .u64 Q, .int .u64 G] 24)).alloc (.cells #[.slice a n c, .slice b m d] 27)).alloc (.cells #[.slice a' n' c', .slice b' m' d'] 27)) (w.heap.size + 1 + 1) (.slice a' n' c') (.slice b' m' d') from DealBox.at _ _ _ _ (w.heap.size + 1 + 1) (by simp))
      have HBW := Lib.hid (show Below w.heap.size w (((w.alloc (.cells #[.int .u64 P, .int .u64 Q, .int .u64 G] 24)).alloc (.cells #[.slice a n c, .slice b m d] 27)).alloc (.cells #[.slice a' n' c', .slice b' m' d'] 27)) from (((Below.refl _ _).alloc (by simp <;> omega) _).alloc (by simp <;> omega) _).alloc (by simp <;> omega) _)
      go_enter Try.func49, Try.ntmps49
      obtain ⟨g0, g1, g2, -⟩ := id F_g.out
      obtain ⟨x0, x1, -⟩ := id F_x.out
      obtain ⟨y0, y1, -⟩ := id F_y.out
      go_wp2_with fail
      clear g0 g1 g2 x0 x1 y0 y1
      refine (sbelow_any _ (H1.out.keep HBW.out) HB1.out).mono ?_
      rintro e w1 ⟨rfl, hb1⟩
      replace F_g := Lib.hid (F_g.out.keep hb1)
      replace F_x := Lib.hid (F_x.out.keep hb1)
      replace F_y := Lib.hid (F_y.out.keep hb1)
      replace HBW := Lib.hid (HBW.out.trans (hb1.mono HBW.out.size))
      clear hb1
      obtain ⟨g0, g1, g2, -⟩ := id F_g.out
      obtain ⟨x0, x1, -⟩ := id F_x.out
      obtain ⟨y0, y1, -⟩ := id F_y.out
      go_wp2_with fail
      clear g0 g1 g2 x0 x1 y0 y1
      refine (sbelow_any _ (H2.out.keep HBW.out) HB2.out).mono ?_
      rintro e w2 ⟨rfl, hb2⟩
      replace F_g := Lib.hid (F_g.out.keep hb2)
      replace F_x := Lib.hid (F_x.out.keep hb2)
      replace F_y := Lib.hid (F_y.out.keep hb2)
      replace HBW := Lib.hid (HBW.out.trans (hb2.mono HBW.out.size))
      clear hb2
      obtain ⟨g0, g1, g2, -⟩ := id F_g.out
      obtain ⟨x0, x1, -⟩ := id F_x.out
      obtain ⟨y0, y1, -⟩ := id F_y.out
      go_wp2_with fail
      clear g0 g1 g2 x0 x1 y0 y1
      go_ret
      exact ⟨rfl, HBW.out⟩
    | true =>
      have HB1 := Lib.hid hb1
      have HB2 := Lib.hid hb2
      have hv' : (decide (n ≤ m) && (decide (n = n') && decide (m = m'))) = v := by rw [← hv, e1, e2, l1, l2]; simp [fitsS, hb1, hb2]
      clear hb1 hb2 h1 h2 l1 l2 e1 e2 hv
      by_cases k1 : n ≤ m
      case neg =>
        obtain rfl : false = v := by rw [← hv']; simp [k1]
        have d1 : decide ((n : Int) ≤ (m : Int)) = false := by simp; omega
        have d1n : decide (n ≤ m) = false := by simpa using k1
        clear hv'
        have F_g := Lib.hid (show Boxed (((w.alloc (.cells #[.int .u64 P, .int .u64 Q, .int .u64 G] 24)).alloc (.cells #[.slice a n c, .slice b m d] 27)).alloc (.cells #[.slice a' n' c', .slice b' m' d'] 27)) w.heap.size P Q G from ((Boxed.at _ P Q G _ w.heap.size (by simp)).alloc _).alloc _)
        have F_x := Lib.hid (show DealBox (((w.alloc (.cells #[.int .u64 P, .int .u64 Q, .int .u64 G] 24)).alloc (.cells #[.slice a n c, .slice b m d] 27)).alloc (.cells #[.slice a' n' c', .slice b' m' d'] 27)) (w.heap.size + 1) (.slice a n c) (.slice b m d) from (DealBox.at _ _ _ _ (w.heap.size + 1) (by simp)).alloc _)
        have F_y := Lib.hid (show DealBox (((w.alloc (.cells #[.int .u64 P, .int .u64 Q, .int .u64 G] 24)).alloc (.cells #[.slice a n c, .slice b m d] 27)).alloc (.cells #[.slice a' n' c', .slice b' m' d'] 27)) (w.heap.size + 1 + 1) (.slice a' n' c') (.slice b' m' d') from DealBox.at _ _ _ _ (w.heap.size + 1 + 1) (by simp))
        have HBW := Lib.hid (show Below w.heap.size w (((w.alloc (.cells #[.int .u64 P, .int .u64 Q, .int .u64 G] 24)).alloc (.cells #[.slice a n c, .slice b m d] 27)).alloc (.cells #[.slice a' n' c', .slice b' m' d'] 27)) from (((Below.refl _ _).alloc (by simp <;> omega) _).alloc (by simp <;> omega) _).alloc (by simp <;> omega) _)
        go_enter Try.func49, Try.ntmps49
        obtain ⟨g0, g1, g2, -⟩ := id F_g.out
        obtain ⟨x0, x1, -⟩ := id F_x.out
        obtain ⟨y0, y1, -⟩ := id F_y.out
        go_wp2_with fail
        clear g0 g1 g2 x0 x1 y0 y1
        refine (sbelow_any _ (H1.out.keep HBW.out) HB1.out).mono ?_
        rintro e w1 ⟨rfl, hb1⟩
        replace F_g := Lib.hid (F_g.out.keep hb1)
        replace F_x := Lib.hid (F_x.out.keep hb1)
        replace F_y := Lib.hid (F_y.out.keep hb1)
        replace HBW := Lib.hid (HBW.out.trans (hb1.mono HBW.out.size))
        clear hb1
        obtain ⟨g0, g1, g2, -⟩ := id F_g.out
        obtain ⟨x0, x1, -⟩ := id F_x.out
        obtain ⟨y0, y1, -⟩ := id F_y.out
        go_wp2_with fail
        clear g0 g1 g2 x0 x1 y0 y1
        refine (sbelow_any _ (H2.out.keep HBW.out) HB2.out).mono ?_
        rintro e w2 ⟨rfl, hb2⟩
        replace F_g := Lib.hid (F_g.out.keep hb2)
        replace F_x := Lib.hid (F_x.out.keep hb2)
        replace F_y := Lib.hid (F_y.out.keep hb2)
        replace HBW := Lib.hid (HBW.out.trans (hb2.mono HBW.out.size))
        clear hb2
        obtain ⟨g0, g1, g2, -⟩ := id F_g.out
        obtain ⟨x0, x1, -⟩ := id F_x.out
        obtain ⟨y0, y1, -⟩ := id F_y.out
        go_wp2_with fail
        clear g0 g1 g2 x0 x1 y0 y1
        go_ret
        exact ⟨rfl, HBW.out⟩
      case pos =>
        have d1 : decide ((n : Int) ≤ (m : Int)) = true := by simp; omega
        have d1n : decide (n ≤ m) = true := by simpa using k1
        by_cases k2 : n = n'
        case neg =>
          obtain rfl : false = v := by rw [← hv']; simp [k2]
          have d2 : ((n : Int) == (n' : Int)) = false := by simp; omega
          have d2n : (n == n') = false := by simpa using k2
          clear hv' k2
          have F_g := Lib.hid (show Boxed (((w.alloc (.cells #[.int .u64 P, .int .u64 Q, .int .u64 G] 24)).alloc (.cells #[.slice a n c, .slice b m d] 27)).alloc (.cells #[.slice a' n' c', .slice b' m' d'] 27)) w.heap.size P Q G from ((Boxed.at _ P Q G _ w.heap.size (by simp)).alloc _).alloc _)
          have F_x := Lib.hid (show DealBox (((w.alloc (.cells #[.int .u64 P, .int .u64 Q, .int .u64 G] 24)).alloc (.cells #[.slice a n c, .slice b m d] 27)).alloc (.cells #[.slice a' n' c', .slice b' m' d'] 27)) (w.heap.size + 1) (.slice a n c) (.slice b m d) from (DealBox.at _ _ _ _ (w.heap.size + 1) (by simp)).alloc _)
          have F_y := Lib.hid (show DealBox (((w.alloc (.cells #[.int .u64 P, .int .u64 Q, .int .u64 G] 24)).alloc (.cells #[.slice a n c, .slice b m d] 27)).alloc (.cells #[.slice a' n' c', .slice b' m' d'] 27)) (w.heap.size + 1 + 1) (.slice a' n' c') (.slice b' m' d') from DealBox.at _ _ _ _ (w.heap.size + 1 + 1) (by simp))
          have HBW := Lib.hid (show Below w.heap.size w (((w.alloc (.cells #[.int .u64 P, .int .u64 Q, .int .u64 G] 24)).alloc (.cells #[.slice a n c, .slice b m d] 27)).alloc (.cells #[.slice a' n' c', .slice b' m' d'] 27)) from (((Below.refl _ _).alloc (by simp <;> omega) _).alloc (by simp <;> omega) _).alloc (by simp <;> omega) _)
          go_enter Try.func49, Try.ntmps49
          obtain ⟨g0, g1, g2, -⟩ := id F_g.out
          obtain ⟨x0, x1, -⟩ := id F_x.out
          obtain ⟨y0, y1, -⟩ := id F_y.out
          go_wp2_with fail
          clear g0 g1 g2 x0 x1 y0 y1
          refine (sbelow_any _ (H1.out.keep HBW.out) HB1.out).mono ?_
          rintro e w1 ⟨rfl, hb1⟩
          replace F_g := Lib.hid (F_g.out.keep hb1)
          replace F_x := Lib.hid (F_x.out.keep hb1)
          replace F_y := Lib.hid (F_y.out.keep hb1)
          replace HBW := Lib.hid (HBW.out.trans (hb1.mono HBW.out.size))
          clear hb1
          obtain ⟨g0, g1, g2, -⟩ := id F_g.out
          obtain ⟨x0, x1, -⟩ := id F_x.out
          obtain ⟨y0, y1, -⟩ := id F_y.out
          go_wp2_with fail
          clear g0 g1 g2 x0 x1 y0 y1
          refine (sbelow_any _ (H2.out.keep HBW.out) HB2.out).mono ?_
          rintro e w2 ⟨rfl, hb2⟩
          replace F_g := Lib.hid (F_g.out.keep hb2)
          replace F_x := Lib.hid (F_x.out.keep hb2)
          replace F_y := Lib.hid (F_y.out.keep hb2)
          replace HBW := Lib.hid (HBW.out.trans (hb2.mono HBW.out.size))
          clear hb2
          obtain ⟨g0, g1, g2, -⟩ := id F_g.out
          obtain ⟨x0, x1, -⟩ := id F_x.out
          obtain ⟨y0, y1, -⟩ := id F_y.out
          go_wp2_with fail
          clear g0 g1 g2 x0 x1 y0 y1
          go_ret
          exact ⟨rfl, HBW.out⟩
        case pos =>
          by_cases k3 : m = m'
          case neg =>
            obtain rfl : false = v := by rw [← hv']; simp [k3]
            have d2 : ((n : Int) == (n' : Int)) = true := by simp; omega
            have d2n : (n == n') = true := by simpa using k2
            have d3 : ((m : Int) == (m' : Int)) = false := by simp; omega
            have d3n : (m == m') = false := by simpa using k3
            clear hv' k2 k3
            have F_g := Lib.hid (show Boxed (((w.alloc (.cells #[.int .u64 P, .int .u64 Q, .int .u64 G] 24)).alloc (.cells #[.slice a n c, .slice b m d] 27)).alloc (.cells #[.slice a' n' c', .slice b' m' d'] 27)) w.heap.size P Q G from ((Boxed.at _ P Q G _ w.heap.size (by simp)).alloc _).alloc _)
            have F_x := Lib.hid (show DealBox (((w.alloc (.cells #[.int .u64 P, .int .u64 Q, .int .u64 G] 24)).alloc (.cells #[.slice a n c, .slice b m d] 27)).alloc (.cells #[.slice a' n' c', .slice b' m' d'] 27)) (w.heap.size + 1) (.slice a n c) (.slice b m d) from (DealBox.at _ _ _ _ (w.heap.size + 1) (by simp)).alloc _)
            have F_y := Lib.hid (show DealBox (((w.alloc (.cells #[.int .u64 P, .int .u64 Q, .int .u64 G] 24)).alloc (.cells #[.slice a n c, .slice b m d] 27)).alloc (.cells #[.slice a' n' c', .slice b' m' d'] 27)) (w.heap.size + 1 + 1) (.slice a' n' c') (.slice b' m' d') from DealBox.at _ _ _ _ (w.heap.size + 1 + 1) (by simp))
            have HBW := Lib.hid (show Below w.heap.size w (((w.alloc (.cells #[.int .u64 P, .int .u64 Q, .int .u64 G] 24)).alloc (.cells #[.slice a n c, .slice b m d] 27)).alloc (.cells #[.slice a' n' c', .slice b' m' d'] 27)) from (((Below.refl _ _).alloc (by simp <;> omega) _).alloc (by simp <;> omega) _).alloc (by simp <;> omega) _)
            go_enter Try.func49, Try.ntmps49
            obtain ⟨g0, g1, g2, -⟩ := id F_g.out
            obtain ⟨x0, x1, -⟩ := id F_x.out
            obtain ⟨y0, y1, -⟩ := id F_y.out
            go_wp2_with fail
            clear g0 g1 g2 x0 x1 y0 y1
            refine (sbelow_any _ (H1.out.keep HBW.out) HB1.out).mono ?_
            rintro e w1 ⟨rfl, hb1⟩
            replace F_g := Lib.hid (F_g.out.keep hb1)
            replace F_x := Lib.hid (F_x.out.keep hb1)
            replace F_y := Lib.hid (F_y.out.keep hb1)
            replace HBW := Lib.hid (HBW.out.trans (hb1.mono HBW.out.size))
            clear hb1
            obtain ⟨g0, g1, g2, -⟩ := id F_g.out
            obtain ⟨x0, x1, -⟩ := id F_x.out
            obtain ⟨y0, y1, -⟩ := id F_y.out
            go_wp2_with fail
            clear g0 g1 g2 x0 x1 y0 y1
            refine (sbelow_any _ (H2.out.keep HBW.out) HB2.out).mono ?_
            rintro e w2 ⟨rfl, hb2⟩
            replace F_g := Lib.hid (F_g.out.keep hb2)
            replace F_x := Lib.hid (F_x.out.keep hb2)
            replace F_y := Lib.hid (F_y.out.keep hb2)
            replace HBW := Lib.hid (HBW.out.trans (hb2.mono HBW.out.size))
            clear hb2
            obtain ⟨g0, g1, g2, -⟩ := id F_g.out
            obtain ⟨x0, x1, -⟩ := id F_x.out
            obtain ⟨y0, y1, -⟩ := id F_y.out
            go_wp2_with fail
            clear g0 g1 g2 x0 x1 y0 y1
            go_ret
            exact ⟨rfl, HBW.out⟩
          case pos =>
            obtain rfl : true = v := by rw [← hv', decide_eq_true k1, decide_eq_true k2, decide_eq_true k3]; rfl
            have d2 : ((n : Int) == (n' : Int)) = true := by simp; omega
            have d2n : (n == n') = true := by simpa using k2
            have d3 : ((m : Int) == (m' : Int)) = true := by simp; omega
            have d3n : (m == m') = true := by simpa using k3
            clear hv' k2 k3
            have F_g := Lib.hid (show Boxed (((w.alloc (.cells #[.int .u64 P, .int .u64 Q, .int .u64 G] 24)).alloc (.cells #[.slice a n c, .slice b m d] 27)).alloc (.cells #[.slice a' n' c', .slice b' m' d'] 27)) w.heap.size P Q G from ((Boxed.at _ P Q G _ w.heap.size (by simp)).alloc _).alloc _)
            have F_x := Lib.hid (show DealBox (((w.alloc (.cells #[.int .u64 P, .int .u64 Q, .int .u64 G] 24)).alloc (.cells #[.slice a n c, .slice b m d] 27)).alloc (.cells #[.slice a' n' c', .slice b' m' d'] 27)) (w.heap.size + 1) (.slice a n c) (.slice b m d) from (DealBox.at _ _ _ _ (w.heap.size + 1) (by simp)).alloc _)
            have F_y := Lib.hid (show DealBox (((w.alloc (.cells #[.int .u64 P, .int .u64 Q, .int .u64 G] 24)).alloc (.cells #[.slice a n c, .slice b m d] 27)).alloc (.cells #[.slice a' n' c', .slice b' m' d'] 27)) (w.heap.size + 1 + 1) (.slice a' n' c') (.slice b' m' d') from DealBox.at _ _ _ _ (w.heap.size + 1 + 1) (by simp))
            have HBW := Lib.hid (show Below w.heap.size w (((w.alloc (.cells #[.int .u64 P, .int .u64 Q, .int .u64 G] 24)).alloc (.cells #[.slice a n c, .slice b m d] 27)).alloc (.cells #[.slice a' n' c', .slice b' m' d'] 27)) from (((Below.refl _ _).alloc (by simp <;> omega) _).alloc (by simp <;> omega) _).alloc (by simp <;> omega) _)
            go_enter Try.func49, Try.ntmps49
            obtain ⟨g0, g1, g2, -⟩ := id F_g.out
            obtain ⟨x0, x1, -⟩ := id F_x.out
            obtain ⟨y0, y1, -⟩ := id F_y.out
            go_wp2_with fail
            clear g0 g1 g2 x0 x1 y0 y1
            refine (sbelow_any _ (H1.out.keep HBW.out) HB1.out).mono ?_
            rintro e w1 ⟨rfl, hb1⟩
            replace F_g := Lib.hid (F_g.out.keep hb1)
            replace F_x := Lib.hid (F_x.out.keep hb1)
            replace F_y := Lib.hid (F_y.out.keep hb1)
            replace HBW := Lib.hid (HBW.out.trans (hb1.mono HBW.out.size))
            clear hb1
            obtain ⟨g0, g1, g2, -⟩ := id F_g.out
            obtain ⟨x0, x1, -⟩ := id F_x.out
            obtain ⟨y0, y1, -⟩ := id F_y.out
            go_wp2_with fail
            clear g0 g1 g2 x0 x1 y0 y1
            refine (sbelow_any _ (H2.out.keep HBW.out) HB2.out).mono ?_
            rintro e w2 ⟨rfl, hb2⟩
            replace F_g := Lib.hid (F_g.out.keep hb2)
            replace F_x := Lib.hid (F_x.out.keep hb2)
            replace F_y := Lib.hid (F_y.out.keep hb2)
            replace HBW := Lib.hid (HBW.out.trans (hb2.mono HBW.out.size))
            clear hb2
            obtain ⟨g0, g1, g2, -⟩ := id F_g.out
            obtain ⟨x0, x1, -⟩ := id F_x.out
            obtain ⟨y0, y1, -⟩ := id F_y.out
            go_wp2_with fail
            clear g0 g1 g2 x0 x1 y0 y1
            go_ret
            exact ⟨rfl, HBW.out⟩

set_option maxRecDepth 100000 in
set_option maxHeartbeats 8000000 in
theorem merge1_any {P Q G : Int} {bg bl s o k cap : Nat} {l : List Dl} {D E : Dl} {v : Bool} (w : World) (hg : Boxed w bg P Q G) (hl : w.cell? ⟨bl, 0, none⟩ = some (.slice (some ⟨s, o, none⟩) k cap)) (hll : bl < w.heap.size) (hr : DRow w s o l) (h0 : l[0]? = some E) (hk : k = l.length) (hD : DlIn w D) (hv : fitsS P Q D.xs D.ys E.xs E.ys = v) :
    Calls Try.prog 48 #[.agg #[.slice D.a D.n D.c, .slice D.b D.m D.d], .pointer (some ⟨bg, 0, none⟩), .pointer (some ⟨bl, 0, none⟩)] w fun e w' => e = .returned (.bool (!v)) ∧ Below w.heap.size w w' := by
  have HG := Lib.hid hg
  have HLC := Lib.hid hl
  have HD := Lib.hid hD
  obtain ⟨h1, hE⟩ := List.getElem?_eq_some_iff.1 h0
  have HE0 := Lib.hid (show w.cell? ⟨s, o, none⟩ = some (.slice E.a E.n E.c) by have := (hr.c 0 h1).1; rwa [hE, Nat.zero_mul, Nat.add_zero] at this)
  have HE1 := Lib.hid (show w.cell? ⟨s, o + 1, none⟩ = some (.slice E.b E.m E.d) by have := (hr.c 0 h1).2; rwa [hE, Nat.zero_mul, Nat.add_zero] at this)
  have HEI := Lib.hid (show DlIn w E by rw [← hE]; exact hr.ok _ (List.getElem_mem h1))
  have HL1 := Lib.hid HEI.out.h1.len
  have HL2 := Lib.hid HEI.out.h2.len
  have HV := Lib.hid hv
  have hs := hr.lt
  have hk0 : 0 < k := by omega
  have hk1 : (0 : Int) < (k : Int) := by omega
  have c26 : Try.prog.cellsOf 27 = 2 := by kernel_rfl
  clear hg hl hr hD hv hE h1 hk h0
  have F_d := Lib.hid (show DealBox (w.alloc (.cells #[.slice D.a D.n D.c, .slice D.b D.m D.d] 27)) w.heap.size (.slice D.a D.n D.c) (.slice D.b D.m D.d) from DealBox.at _ _ _ _ w.heap.size (by simp))
  have HBW := Lib.hid (show Below w.heap.size w (w.alloc (.cells #[.slice D.a D.n D.c, .slice D.b D.m D.d] 27)) from (Below.refl _ _).alloc (by simp <;> omega) _)
  go_enter Try.func48, Try.ntmps48
  go_wp2_with fail
  replace F_d := Lib.hid F_d.out.drew
  replace HBW := Lib.hid HBW.out.drew
  have hS := And.intro (HG.out.keep HBW.out).s (And.intro ((HBW.out.cell (p := ⟨bl, 0, none⟩) hll).trans HLC.out) (And.intro F_d.out.c0 (And.intro F_d.out.c1 (And.intro ((HBW.out.cell (p := ⟨s, o, none⟩) hs).trans HE0.out) ((HBW.out.cell (p := ⟨s, o + 1, none⟩) hs).trans HE1.out)))))
  refine wp_region_stage 7 (fun w' => SBox w' bg P Q G ∧ w'.cell? ⟨bl, 0, none⟩ = some (.slice (some ⟨s, o, none⟩) k cap) ∧ w'.cell? ⟨w.heap.size, 0, none⟩ = some (.slice D.a D.n D.c) ∧ w'.cell? ⟨w.heap.size, 1, none⟩ = some (.slice D.b D.m D.d) ∧ w'.cell? ⟨s, o, none⟩ = some (.slice E.a E.n E.c) ∧ w'.cell? ⟨s, o + 1, none⟩ = some (.slice E.b E.m E.d)) (by kernel_rfl) ?_
  refine wpAnyB_take (i := 0) (some 5) (Op.load 24 (Operand.tmp 1)) 24 (v := ?_) ⟨_, rfl, rfl, rfl, rfl, rfl⟩ (by kernel_rfl) (by kernel_rfl) (by kernel_rfl) [5, 6, 7] (by kernel_rfl) (fun _ _ _ h => h) hS (fun w' hSw => ?_) ?_
  rotate_left
  · obtain ⟨⟨b0, b1, b2⟩, b3, b4, b5, b6, b7⟩ := hSw
    unfold bareOp
    go_simp
    try with_reducible rfl
  simp only [Act.put, List.setIfInBounds_toArray, List.set_cons_zero, List.set_cons_succ]
  refine wpAnyB_take (i := 1) (some 6) (Op.load 27 (Operand.tmp 3)) 27 (v := ?_) ⟨_, rfl, rfl, rfl, rfl, rfl⟩ (by kernel_rfl) (by kernel_rfl) (by kernel_rfl) [5, 6, 7] (by kernel_rfl) (fun _ _ _ h => h) hS (fun w' hSw => ?_) ?_
  rotate_left
  · obtain ⟨⟨b0, b1, b2⟩, b3, b4, b5, b6, b7⟩ := hSw
    unfold bareOp
    go_simp
    try with_reducible rfl
  simp only [Act.put, List.setIfInBounds_toArray, List.set_cons_zero, List.set_cons_succ]
  refine wpAnyB_take (i := 2) (some 7) (Op.load 33 (Operand.tmp 2)) 33 (v := ?_) ⟨_, rfl, rfl, rfl, rfl, rfl⟩ (by kernel_rfl) (by kernel_rfl) (by kernel_rfl) [3, 4, 5, 6, 7] (by kernel_rfl) (fun _ _ _ h => h) hS (fun w' hSw => ?_) ?_
  rotate_left
  · obtain ⟨⟨b0, b1, b2⟩, b3, b4, b5, b6, b7⟩ := hSw
    unfold bareOp
    go_simp
    try with_reducible rfl
  simp only [Act.put, List.setIfInBounds_toArray, List.set_cons_zero, List.set_cons_succ]
  refine wpAnyB_takeP (i := 3) (some 8) (Op.indexAddr 33 (Operand.tmp 7) (Operand.const (Value.int IntKind.i64 0))) 0 (v := ?_) ⟨_, rfl, rfl, rfl, rfl, rfl⟩ (by kernel_rfl) (by kernel_rfl) (by kernel_rfl) (by kernel_rfl) (fun _ _ _ h => h) (fun _ => hS) (fun w' => ?_) ?_
  rotate_left
  · unfold bareOp
    go_simp
    try with_reducible rfl
  simp only [Act.put, List.setIfInBounds_toArray, List.set_cons_zero, List.set_cons_succ]
  refine wpAnyB_take (i := 4) (some 9) (Op.load 27 (Operand.tmp 8)) 27 (v := ?_) ⟨_, rfl, rfl, rfl, rfl, rfl⟩ (by kernel_rfl) (by kernel_rfl) (by kernel_rfl) [5, 6, 7] (by kernel_rfl) (fun _ _ _ h => h) hS (fun w' hSw => ?_) ?_
  rotate_left
  · obtain ⟨⟨b0, b1, b2⟩, b3, b4, b5, b6, b7⟩ := hSw
    unfold bareOp
    go_simp
    try with_reducible rfl
  simp only [Act.put, List.setIfInBounds_toArray, List.set_cons_zero, List.set_cons_succ]
  refine wpAnyB_only (i := 5) (some 10) (Op.call { callee := Callee.value (Operand.func 49), args := #[Operand.tmp 5, Operand.tmp 6, Operand.tmp 9], argTypes := #[24, 27, 27] }) 4 ⟨_, rfl, rfl, rfl, rfl, rfl⟩ (by kernel_rfl) (fun K hK => ?_)
  unfold bareOp
  go_wp2_with (go_at_call 49; refine (fits_any _ (HD.out.h1.keep HBW.out) (HD.out.h2.keep HBW.out) HL1.out HL2.out HV.out).mono ?_; rintro e w8 ⟨rfl, hb8⟩)
  replace F_d := Lib.hid (F_d.out.keep hb8)
  replace HBW := Lib.hid (HBW.out.trans (hb8.mono HBW.out.size))
  replace hS := And.intro (HG.out.keep HBW.out).s (And.intro ((HBW.out.cell (p := ⟨bl, 0, none⟩) hll).trans HLC.out) (And.intro F_d.out.c0 (And.intro F_d.out.c1 (And.intro ((HBW.out.cell (p := ⟨s, o, none⟩) hs).trans HE0.out) ((HBW.out.cell (p := ⟨s, o + 1, none⟩) hs).trans HE1.out)))))
  clear hb8
  refine hK.out _ _ (fun _ => hS) ?_
  clear hK K
  try simp only [Act.put, List.setIfInBounds_toArray, List.set_cons_zero, List.set_cons_succ]
  refine wpAnyB_takeP (i := 6) (some 11) (Op.unOp UnOp.not 4 (Operand.tmp 10)) 4 (v := ?_) ⟨_, rfl, rfl, rfl, rfl, rfl⟩ (by kernel_rfl) (by kernel_rfl) (by kernel_rfl) (by kernel_rfl) (fun _ _ _ h => h) (fun _ => hS) (fun w' => ?_) ?_
  rotate_left
  · unfold bareOp
    go_simp
    try with_reducible rfl
  simp only [Act.put, List.setIfInBounds_toArray, List.set_cons_zero, List.set_cons_succ]
  refine wpAnyB_only (i := 7) (some 4) (Op.assign (Operand.tmp 11)) 4 ⟨_, rfl, rfl, rfl, rfl, rfl⟩ (by kernel_rfl) (fun K hK => ?_)
  unfold bareOp
  go_wp2_with fail
  refine hK.out _ _ (fun h => absurd (h.symm.trans (by kernel_rfl : _ = true)) (by decide)) ?_
  clear hK K
  try simp only [Act.put, List.setIfInBounds_toArray, List.set_cons_zero, List.set_cons_succ]
  refine wpAnyB_done (by kernel_rfl) ?_ _
  clear hS
  go_wp2_with fail
  go_ret
  exact ⟨rfl, HBW.out⟩

set_option maxRecDepth 100000 in
set_option maxHeartbeats 8000000 in
theorem mindex_any {P Q G : Int} {bg bl s o k cap : Nat} {l : List Dl} {E : Dl} (w : World) (hg : Boxed w bg P Q G) (hl : w.cell? ⟨bl, 0, none⟩ = some (.slice (some ⟨s, o, none⟩) k cap)) (hll : bl < w.heap.size) (hr : DRow w s o l) (h0 : l[0]? = some E) (hk : k = l.length) (hk8 : k ≤ 1000000) :
    Calls Try.prog 82 #[.slice (some ⟨s, o, none⟩) k cap, .func (.func 48) #[] #[.pointer (some ⟨bg, 0, none⟩), .pointer (some ⟨bl, 0, none⟩)]] w fun e w' => ∃ r : Int, e = .returned (.int .i64 r) ∧ decide (0 ≤ r) = !(mallS P Q E l) ∧ Below w.heap.size w w' := by
  have HG := Lib.hid hg
  have HLC := Lib.hid hl
  have HR := Lib.hid hr
  have HK := Lib.hid hk
  have HN := Lib.hid h0
  have hs := hr.lt
  have c26 : Try.prog.cellsOf 27 = 2 := by kernel_rfl
  clear hg hl hr hk h0
  have HBW := Lib.hid (Below.refl w.heap.size w)
  go_enter Try.func82, Try.ntmps82
  go_wp2_with fail
  go_loopw [5, 8] (fun c5 c8 wr => ∃ i : Nat, i ≤ k ∧ c8 = .int .i64 i ∧ Hid (∀ j (h : j < l.length), j < i → fitsS P Q l[j].xs l[j].ys E.xs E.ys = true) ∧ Hid (Below w.heap.size w wr)) (fun _ c8 _ => k - (intOf c8).toNat)
  case atStart => exact ⟨0, Nat.zero_le _, rfl, (fun j h hj => by omega), HBW.out⟩
  case round =>
    clear HBW
    obtain ⟨i, hi, rfl, HA, HBW⟩ := hrel
    by_cases hlt : i < k
    case neg =>
      have HZ := Lib.hid (show (mallS P Q E l) = true by
        rw [mallS, List.all_eq_true]
        intro D hD
        obtain ⟨j, hj, rfl⟩ := List.mem_iff_getElem.1 hD
        exact HA.out j hj (by have := HK.out; omega))
      go_wp2_with fail
      go_ret
      exact ⟨_, rfl, by rw [HZ.out]; rfl, HBW.out⟩
    case pos =>
      have hil : i < l.length := by have := HK.out; omega
      have hi0 : (0 : Int) ≤ (i : Int) := by omega
      have hi1 : (i : Int) < (k : Int) := by omega
      have hwi : IntKind.i64.wrap ((i : Int) + 1) = (i : Int) + 1 := IntWalk.i64_in _ (by omega)
      obtain ⟨D, hD⟩ : ∃ D, l[i] = D := ⟨_, rfl⟩
      have hc0 := (HBW.out.cell (p := ⟨s, o + i * 2, none⟩) hs).trans (HR.out.c i hil).1
      have hc1 := (HBW.out.cell (p := ⟨s, o + i * 2 + 1, none⟩) hs).trans (HR.out.c i hil).2
      rw [hD] at hc0 hc1
      have HDI := Lib.hid (show DlIn w D by rw [← hD]; exact HR.out.ok _ (List.getElem_mem hil))
      obtain ⟨v, hv⟩ : ∃ v, fitsS P Q D.xs D.ys E.xs E.ys = v := ⟨_, rfl⟩
      have HV := Lib.hid hv
      have HDE := Lib.hid hD
      have hsw := HBW.out.size
      clear hD hv
      go_wp2_with fail
      clear hc0 hc1
      refine (merge1_any _ (HG.out.keep HBW.out) ((HBW.out.cell (p := ⟨bl, 0, none⟩) hll).trans HLC.out) (Nat.lt_of_lt_of_le hll HBW.out.size) (HR.out.keep HBW.out) HN.out HK.out (HDI.out.keep HBW.out) HV.out).mono ?_
      rintro e w1 ⟨rfl, hb1⟩
      replace HBW := Lib.hid (HBW.out.trans (hb1.mono HBW.out.size))
      clear hb1 hsw
      cases v with
      | false =>
        have HZ := Lib.hid (show (mallS P Q E l) = false by
          rw [mallS, List.all_eq_false]
          exact ⟨l[i], List.getElem_mem hil, by rw [HDE.out, HV.out]; simp⟩)
        go_wp2_with fail
        go_ret
        exact ⟨_, rfl, by rw [HZ.out]; simp, HBW.out⟩
      | true =>
        have HA2 := Lib.hid (show ∀ j (h : j < l.length), j < i + 1 → fitsS P Q l[j].xs l[j].ys E.xs E.ys = true from fun j h hj => by
          by_cases e : j < i
          · exact HA.out j h e
          · obtain rfl : j = i := by omega
            rw [HDE.out]; exact HV.out)
        go_wp2_with fail
        go_roundw
        case rel => exact ⟨i + 1, by omega, by go_num, HA2.out, HBW.out⟩
        case measure => simp [intOf] <;> omega

set_option maxRecDepth 100000 in
set_option maxHeartbeats 8000000 in
theorem mcontains_any {P Q G : Int} {bg bl s o k cap : Nat} {l : List Dl} {E : Dl} (w : World) (hg : Boxed w bg P Q G) (hl : w.cell? ⟨bl, 0, none⟩ = some (.slice (some ⟨s, o, none⟩) k cap)) (hll : bl < w.heap.size) (hr : DRow w s o l) (h0 : l[0]? = some E) (hk : k = l.length) (hk8 : k ≤ 1000000) :
    Calls Try.prog 50 #[.slice (some ⟨s, o, none⟩) k cap, .func (.func 48) #[] #[.pointer (some ⟨bg, 0, none⟩), .pointer (some ⟨bl, 0, none⟩)]] w fun e w' => e = .returned (.bool (!(mallS P Q E l))) ∧ Below w.heap.size w w' := by
  have HG := Lib.hid hg
  have HLC := Lib.hid hl
  have HR := Lib.hid hr
  have HK := Lib.hid hk
  clear hg hl hr hk
  go_enter Try.func50, Try.ntmps50
  go_wp2_with fail
  refine (mindex_any _ HG.out HLC.out hll HR.out h0 HK.out hk8).mono ?_
  rintro e w1 ⟨r, rfl, hr, hb1⟩
  have HB := Lib.hid hb1
  have HZ := Lib.hid hr
  clear hb1 hr
  go_wp2_with fail
  go_ret
  exact ⟨by rw [← HZ.out]; rfl, HB.out⟩
end Go.Proofs.Ytjfaaicbojnpaaa
/- The merge of deals. -/
namespace Go.Proofs.Ytjfaaicbojnpaaa
open Go.RowKit Num
set_option linter.unusedSimpArgs false
set_option linter.unusedVariables false

/-- Two lists put together place by place, done up to k. -/
def OpIn (f : Int → Int → Int) (os pk : List Int) (k : Nat) (o : List Int) : Prop :=
  o.length = os.length ∧ ∀ j, o.getD j 0 = if j < k ∧ j < os.length then f (os.getD j 0) (pk.getD j 0) else os.getD j 0
theorem OpIn.start (f : Int → Int → Int) (os pk : List Int) : OpIn f os pk 0 os := ⟨rfl, fun j => by rw [if_neg (by omega)]⟩
theorem OpIn.step {f : Int → Int → Int} {os pk o : List Int} {k : Nat} (h : OpIn f os pk k o) (hk : k < os.length) : OpIn f os pk (k + 1) (o.set k (f (o.getD k 0) (pk.getD k 0))) := by
  refine ⟨by rw [List.length_set]; exact h.1, fun j => ?_⟩
  rw [getD_set (by rw [h.1]; exact hk)]
  by_cases e : k = j
  · subst e; rw [if_pos rfl, if_pos (by omega), h.2 k, if_neg (by omega)]
  · rw [if_neg e, h.2 j]
    by_cases e2 : j < k ∧ j < os.length
    · rw [if_pos e2, if_pos (by omega)]
    · rw [if_neg e2, if_neg (by omega)]
theorem OpIn.done {f : Int → Int → Int} {os pk o : List Int} {k : Nat} (hk : k = os.length) (hl : pk.length = os.length) (h : OpIn f os pk k o) : o = List.zipWith f os pk := by
  subst hk
  apply List.ext_getElem (by rw [h.1]; simp [hl])
  intro j h1 h2
  have := h.2 j
  rw [getD_at h1, if_pos (by have := h.1; omega), getD_at (by have := h.1; omega), getD_at (by have := h.1; omega)] at this
  rw [this, List.getElem_zipWith]
theorem OpIn.rng {f : Int → Int → Int} {L : Int} {os pk o : List Int} {k : Nat} (hL : 0 < L) (hf : ∀ x y, 0 ≤ f x y ∧ f x y < L) (h : OpIn f os pk k o) (hr : ∀ x, x ∈ os → 0 ≤ x ∧ x < L) (j : Nat) : 0 ≤ o.getD j 0 ∧ o.getD j 0 < L := by
  rw [h.2 j]
  split
  · exact hf _ _
  · by_cases hj : j < os.length
    · rw [getD_at hj]; exact hr _ (List.getElem_mem hj)
    · rw [List.getD_eq_getElem?_getD, List.getElem?_eq_none (by omega)]; exact ⟨Int.le_refl _, hL⟩
def mulF (P x y : Int) : Int := x * y % P
def addF (Q x y : Int) : Int := (x + y) % Q
theorem mulF_rng {P : Int} (h : 0 < P) (x y : Int) : 0 ≤ mulF P x y ∧ mulF P x y < P := ⟨Int.emod_nonneg _ (by omega), Int.emod_lt_of_pos _ h⟩
theorem addF_rng {P : Int} (h : 0 < P) (x y : Int) : 0 ≤ addF P x y ∧ addF P x y < P := ⟨Int.emod_nonneg _ (by omega), Int.emod_lt_of_pos _ h⟩
/-- The pledges and the shares of a merge. -/
def mrgP (P : Int) (os : List Int) (t : List Dl) : List Int := t.foldl (fun o D => List.zipWith (mulF P) o D.xs) os
def mrgQ (Q : Int) (os : List Int) (t : List Dl) : List Int := t.foldl (fun o D => List.zipWith (addF Q) o D.ys) os
theorem mrgP_snoc (P : Int) (os : List Int) (t : List Dl) (D : Dl) : mrgP P os (t ++ [D]) = List.zipWith (mulF P) (mrgP P os t) D.xs := by simp [mrgP]
theorem mrgQ_snoc (Q : Int) (os : List Int) (t : List Dl) (D : Dl) : mrgQ Q os (t ++ [D]) = List.zipWith (addF Q) (mrgQ Q os t) D.ys := by simp [mrgQ]
theorem zip_rng {f : Int → Int → Int} {L : Int} (hf : ∀ x y, 0 ≤ f x y ∧ f x y < L) (os ds : List Int) : ∀ x, x ∈ List.zipWith f os ds → 0 ≤ x ∧ x < L := fun x hx => by
  obtain ⟨i, hi, rfl⟩ := List.mem_iff_getElem.1 hx
  rw [List.getElem_zipWith]; exact hf _ _
theorem mrgP_ok {P : Int} (hP : 0 < P) : ∀ (t : List Dl) (os : List Int), (∀ D, D ∈ t → D.xs.length = os.length) → (∀ x, x ∈ os → 0 ≤ x ∧ x < P) → (mrgP P os t).length = os.length ∧ ∀ x, x ∈ mrgP P os t → 0 ≤ x ∧ x < P
  | [], os, _, h => ⟨rfl, h⟩
  | D :: t, os, hl, h => by
    have h1 : (List.zipWith (mulF P) os D.xs).length = os.length := by rw [List.length_zipWith, hl D (by simp)]; exact Nat.min_self _
    obtain ⟨a, b⟩ := mrgP_ok hP t (List.zipWith (mulF P) os D.xs) (fun E hE => by rw [h1]; exact hl E (by simp [hE])) (zip_rng (mulF_rng hP) _ _)
    exact ⟨a.trans h1, b⟩
theorem mrgQ_ok {P : Int} (hP : 0 < P) : ∀ (t : List Dl) (os : List Int), (∀ D, D ∈ t → D.ys.length = os.length) → (∀ x, x ∈ os → 0 ≤ x ∧ x < P) → (mrgQ P os t).length = os.length ∧ ∀ x, x ∈ mrgQ P os t → 0 ≤ x ∧ x < P
  | [], os, _, h => ⟨rfl, h⟩
  | D :: t, os, hl, h => by
    have h1 : (List.zipWith (addF P) os D.ys).length = os.length := by rw [List.length_zipWith, hl D (by simp)]; exact Nat.min_self _
    obtain ⟨a, b⟩ := mrgQ_ok hP t (List.zipWith (addF P) os D.ys) (fun E hE => by rw [h1]; exact hl E (by simp [hE])) (zip_rng (addF_rng hP) _ _)
    exact ⟨a.trans h1, b⟩
theorem fits_true {P Q : Int} {xs ys es fs : List Int} (h : fitsS P Q xs ys es fs = true) : belowS P xs = true ∧ belowS Q ys = true ∧ xs.length ≤ ys.length ∧ xs.length = es.length ∧ ys.length = fs.length := by
  simpa [fitsS] using h
/-- The merge: the error, the pledges, the shares. -/
def mergeS (P Q G : Int) (l : List Dl) : Int × List Int × List Int :=
  if Has P Q G then (match l with
    | [] => (2, [], [])
    | E :: t => if decide (l.length ≤ 8) && mallS P Q E l then (0, mrgP P E.xs t, mrgQ Q E.ys t) else (2, [], [])) else (300, [], [])
theorem OwnN.mono {W : World} {n₀ n₁ g N cap : Nat} {xs : List Int} (h : OwnN W n₁ g N cap xs) (hn : n₀ ≤ n₁) : OwnN W n₀ g N cap xs := by
  refine ⟨h.len, h.row.1, ?_⟩
  rcases h.row.2 with h2 | ⟨g, cap, cur, a, b, c⟩
  · exact .inl h2
  · exact .inr ⟨g, cap, cur, a, Nat.le_trans hn b, c⟩
theorem OwnN.alloc {W : World} {n₀ g N cap : Nat} {xs : List Int} (h : OwnN W n₀ g N cap xs) (o : Obj) : OwnN (W.alloc o) n₀ g N cap xs := h.keep ((Below.refl _ _).alloc (Nat.le_refl _) o)
/-- The memory of a merge under way. -/
structure MrgIn (w wx : World) (P Q G : Int) (sl : Value) (B g1 g2 n m ca cb : Nat) (ps ss : List Int) : Prop where
  box : DealBox wx B (.slice (some ⟨g1, 0, none⟩) n ca) (.slice (some ⟨g2, 0, none⟩) m cb)
  r1 : OwnN wx (w.heap.size + 3) g1 n ca ps
  r2 : OwnN wx (w.heap.size + 3) g2 m cb ss
  n1 : B ≠ g1
  n2 : B ≠ g2
  n3 : g1 ≠ g2
  ge : w.heap.size + 3 ≤ B
  g : Boxed wx w.heap.size P Q G
  l : OneAt wx (w.heap.size + 1) sl
  b : DealBox wx (w.heap.size + 2) (.slice none 0 0) (.slice none 0 0)
  bel : Below w.heap.size w wx
section
variable {w wx wy : World} {P Q G : Int} {sl : Value} {B g1 g2 n m ca cb : Nat} {ps ss : List Int}
theorem MrgIn.keep (h : MrgIn w wx P Q G sl B g1 g2 n m ca cb ps ss) (hb : Below wx.heap.size wx wy) : MrgIn w wy P Q G sl B g1 g2 n m ca cb ps ss :=
  ⟨h.box.keep hb, h.r1.keep hb, h.r2.keep hb, h.n1, h.n2, h.n3, h.ge, h.g.keep hb, h.l.keep hb, h.b.keep hb, h.bel.trans (hb.mono h.bel.size)⟩
theorem MrgIn.drew (h : MrgIn w wx P Q G sl B g1 g2 n m ca cb ps ss) : MrgIn w wx.drew P Q G sl B g1 g2 n m ca cb ps ss := h.keep (Below.refl _ _).drew
theorem MrgIn.alloc (h : MrgIn w wx P Q G sl B g1 g2 n m ca cb ps ss) (o : Obj) : MrgIn w (wx.alloc o) P Q G sl B g1 g2 n m ca cb ps ss := h.keep ((Below.refl _ _).alloc (Nat.le_refl _) o)
theorem DealBox.far1 {W : World} {B c o : Nat} {v1 v2 u : Value} (h : DealBox W B v1 v2) (hn : c ≠ B) : DealBox (W.setCell ⟨c, o, none⟩ u) B v1 v2 := by
  refine ⟨?_, ?_, ?_, ?_, by simpa using h.lt⟩
  · rw [World.cell?_setCell_other _ _ _ _ (by simp <;> omega)]; exact h.c0
  · rw [World.cell?_setCell_other _ _ _ _ (by simp <;> omega)]; exact h.c1
  · rw [World.frozen?_setCell]; exact h.f0
  · rw [World.frozen?_setCell]; exact h.f1
theorem OneAt.far1 {W : World} {b c o : Nat} {v u : Value} (h : OneAt W b v) (hn : c ≠ b) : OneAt (W.setCell ⟨c, o, none⟩ u) b v := by
  refine ⟨?_, ?_, by simpa using h.lt⟩
  · rw [World.cell?_setCell_other _ _ _ _ (by simp <;> omega)]; exact h.c0
  · rw [World.frozen?_setCell]; exact h.f0
theorem MrgIn.set1 (h : MrgIn w wx P Q G sl B g1 g2 n m ca cb ps ss) (k : Nat) (v : Int) : MrgIn w (wx.setCell ⟨g1, k, none⟩ (.int .u64 v)) P Q G sl B g1 g2 n m ca cb (ps.set k v) ss := by
  have hl := h.r1.lt.1
  exact ⟨h.box.far1 (Ne.symm h.n1), h.r1.set v, h.r2.far h.n3 _, h.n1, h.n2, h.n3, h.ge, h.g.far (by omega) _, h.l.far1 (by omega), h.b.far1 (by omega), h.bel.setCell (by show w.heap.size ≤ g1; omega) _⟩
theorem MrgIn.set2 (h : MrgIn w wx P Q G sl B g1 g2 n m ca cb ps ss) (k : Nat) (v : Int) : MrgIn w (wx.setCell ⟨g2, k, none⟩ (.int .u64 v)) P Q G sl B g1 g2 n m ca cb ps (ss.set k v) := by
  have hl := h.r2.lt.1
  exact ⟨h.box.far1 (Ne.symm h.n2), h.r1.far (Ne.symm h.n3) _, h.r2.set v, h.n1, h.n2, h.n3, h.ge, h.g.far (by omega) _, h.l.far1 (by omega), h.b.far1 (by omega), h.bel.setCell (by show w.heap.size ≤ g2; omega) _⟩
/-- The deal under way is made: by a store into a box that lay there before. -/
theorem MrgIn.made {v1 v2 : Value} (hB : DealBox wx B v1 v2) (r1 : OwnN wx (w.heap.size + 3) g1 n ca ps) (r2 : OwnN wx (w.heap.size + 3) g2 m cb ss) (n1 : B ≠ g1) (n2 : B ≠ g2) (n3 : g1 ≠ g2) (ge : w.heap.size + 3 ≤ B)
    (g : Boxed wx w.heap.size P Q G) (l : OneAt wx (w.heap.size + 1) sl) (b : DealBox wx (w.heap.size + 2) (.slice none 0 0) (.slice none 0 0)) (bel : Below w.heap.size w wx) :
    MrgIn w ((wx.setCell ⟨B, 0, none⟩ (.slice (some ⟨g1, 0, none⟩) n ca)).setCell ⟨B, 1, none⟩ (.slice (some ⟨g2, 0, none⟩) m cb)) P Q G sl B g1 g2 n m ca cb ps ss :=
  ⟨hB.stored _ _, (r1.far n1 _).far n1 _, (r2.far n2 _).far n2 _, n1, n2, n3, ge, (g.far (by omega) _).far (by omega) _, (l.far1 (by omega)).far1 (by omega), (b.far1 (by omega)).far1 (by omega), (bel.setCell (by show w.heap.size ≤ B; omega) _).setCell (by show w.heap.size ≤ B; omega) _⟩
end

set_option maxRecDepth 100000 in
set_option maxHeartbeats 8000000 in
theorem smerge_any {P Q G er : Int} {s o k cap : Nat} {l : List Dl} {E : Dl} {ps ss : List Int} (w : World) (hP : 0 ≤ P) (hQ : 0 ≤ Q) (hG : 0 ≤ G) (hr : DRow w s o l) (h0 : l[0]? = some E) (hk : k = l.length) (hk2 : 2 ≤ k) (hk8 : k ≤ 8) (hkc : k ≤ cap) (hv : mergeS P Q G l = (er, ps, ss)) :
    Calls Try.prog 15 #[.agg #[.int .u64 P, .int .u64 Q, .int .u64 G], .slice (some ⟨s, o, none⟩) k cap] w (RetDeal w er ps ss) := by
  have HR := Lib.hid hr
  have HE := Lib.hid h0
  obtain ⟨h1, hE⟩ := List.getElem?_eq_some_iff.1 h0
  have HE0 := Lib.hid (show w.cell? ⟨s, o, none⟩ = some (.slice E.a E.n E.c) by have := (hr.c 0 h1).1; rwa [hE, Nat.zero_mul, Nat.add_zero] at this)
  have HE1 := Lib.hid (show w.cell? ⟨s, o + 1, none⟩ = some (.slice E.b E.m E.d) by have := (hr.c 0 h1).2; rwa [hE, Nat.zero_mul, Nat.add_zero] at this)
  have HEI := Lib.hid (show DlIn w E by rw [← hE]; exact hr.ok _ (List.getElem_mem h1))
  have HEL1 := Lib.hid HEI.out.h1.len
  have HEL2 := Lib.hid HEI.out.h2.len
  have hs := hr.lt
  have c26 : Try.prog.cellsOf 27 = 2 := by kernel_rfl
  have d1 : decide ((k : Int) < 1) = false := by simp; omega
  have d2 : decide ((8 : Int) < (k : Int)) = false := by simp; omega
  have hk0 : (0 : Int) < (k : Int) := by omega
  have hk00 : 0 < k := by omega
  have hmf : ∀ (fn : Fn) (first cap : Array Value) (w : World), (Instr.makeFunc fn first cap).run Try.prog w = .ok (.func fn first cap) w := fun _ _ _ _ => rfl
  obtain ⟨t, rfl⟩ : ∃ t, l = E :: t := by
    cases l with
    | nil => simp at h1
    | cons a t => exact ⟨t, by simp at hE; rw [hE]⟩
  have HKL := Lib.hid hk
  have HK8 := Lib.hid (show k ≤ 8 from hk8)
  clear hr h0 hE h1 hk
  by_cases hH : Has P Q G
  case neg =>
    obtain ⟨rfl, hps0⟩ := Prod.mk.inj (show (300, [], []) = (er, ps, ss) by rw [← hv]; simp [mergeS, hH])
    obtain ⟨rfl, rfl⟩ := Prod.mk.inj hps0
    have HH := Lib.hid hH
    clear hv hH hps0
    have F_g := Lib.hid (show Boxed (((w.alloc (.cells #[.int .u64 P, .int .u64 Q, .int .u64 G] 24)).alloc (.cells #[.slice (some ⟨s, o, none⟩) k cap] 33)).alloc (.cells #[.slice none 0 0, .slice none 0 0] 27)) w.heap.size P Q G from ((Boxed.at _ P Q G _ w.heap.size (by simp)).alloc _).alloc _)
    have F_l := Lib.hid (show OneAt (((w.alloc (.cells #[.int .u64 P, .int .u64 Q, .int .u64 G] 24)).alloc (.cells #[.slice (some ⟨s, o, none⟩) k cap] 33)).alloc (.cells #[.slice none 0 0, .slice none 0 0] 27)) (w.heap.size + 1) (.slice (some ⟨s, o, none⟩) k cap) from (OneAt.at _ _ _ (w.heap.size + 1) (by simp)).alloc _)
    have F_b := Lib.hid (show DealBox (((w.alloc (.cells #[.int .u64 P, .int .u64 Q, .int .u64 G] 24)).alloc (.cells #[.slice (some ⟨s, o, none⟩) k cap] 33)).alloc (.cells #[.slice none 0 0, .slice none 0 0] 27)) (w.heap.size + 2) (.slice none 0 0) (.slice none 0 0) from DealBox.at _ _ _ _ (w.heap.size + 1 + 1) (by simp))
    have HBW := Lib.hid (show Below w.heap.size w (((w.alloc (.cells #[.int .u64 P, .int .u64 Q, .int .u64 G] 24)).alloc (.cells #[.slice (some ⟨s, o, none⟩) k cap] 33)).alloc (.cells #[.slice none 0 0, .slice none 0 0] 27)) from (((Below.refl _ _).alloc (by simp <;> omega) _).alloc (by simp <;> omega) _).alloc (by simp <;> omega) _)
    go_enter Try.func15, Try.ntmps15
    obtain ⟨g0, g1', g2', -⟩ := id F_g.out
    obtain ⟨l0, l1, -⟩ := id F_l.out
    obtain ⟨y0, y1, y2, y3, -⟩ := id F_b.out
    go_wp2_with fail
    clear g0 g1' g2' l0 l1 y0 y1 y2 y3
    refine (form_no P Q G _ hP hQ hG HH.out).mono ?_
    rintro e w1 ⟨rfl, hb1⟩
    replace F_g := Lib.hid (F_g.out.keep hb1)
    replace F_l := Lib.hid (F_l.out.keep hb1)
    replace F_b := Lib.hid (F_b.out.keep hb1)
    replace HBW := Lib.hid (HBW.out.trans (hb1.mono HBW.out.size))
    clear hb1
    obtain ⟨g0, g1', g2', -⟩ := id F_g.out
    obtain ⟨l0, l1, -⟩ := id F_l.out
    obtain ⟨y0, y1, y2, y3, -⟩ := id F_b.out
    go_wp2_with fail
    clear g0 g1' g2' l0 l1 y0 y1 y2 y3
    exact bodyPost_ret (res_deal rfl (F_b.out.stored (.slice none 0 0) (.slice none 0 0)) _ rfl rfl rfl rfl) rfl ⟨_, _, rfl, OwnU.nil _ _, OwnU.nil _ _, (HBW.out.setCell (p := ⟨w.heap.size + 2, 0, none⟩) (by show w.heap.size ≤ w.heap.size + 2; omega) _).setCell (p := ⟨w.heap.size + 2, 1, none⟩) (by show w.heap.size ≤ w.heap.size + 2; omega) _⟩
  case pos =>
    obtain ⟨p5, p3, hQ', pq, g2', gP⟩ := id hH
    have q3 : Q < 1073741824 := by omega
    have q1 : 1 < Q := by omega
    have HH := Lib.hid hH
    clear pq
    cases hm : mallS P Q E (E :: t) with
    | false =>
      obtain ⟨rfl, hps0⟩ := Prod.mk.inj (show (2, [], []) = (er, ps, ss) by rw [← hv]; simp [mergeS, hH, hm])
      obtain ⟨rfl, rfl⟩ := Prod.mk.inj hps0
      have HMA := Lib.hid hm
      clear hv hH hps0 hm
      have F_g := Lib.hid (show Boxed (((w.alloc (.cells #[.int .u64 P, .int .u64 Q, .int .u64 G] 24)).alloc (.cells #[.slice (some ⟨s, o, none⟩) k cap] 33)).alloc (.cells #[.slice none 0 0, .slice none 0 0] 27)) w.heap.size P Q G from ((Boxed.at _ P Q G _ w.heap.size (by simp)).alloc _).alloc _)
      have F_l := Lib.hid (show OneAt (((w.alloc (.cells #[.int .u64 P, .int .u64 Q, .int .u64 G] 24)).alloc (.cells #[.slice (some ⟨s, o, none⟩) k cap] 33)).alloc (.cells #[.slice none 0 0, .slice none 0 0] 27)) (w.heap.size + 1) (.slice (some ⟨s, o, none⟩) k cap) from (OneAt.at _ _ _ (w.heap.size + 1) (by simp)).alloc _)
      have F_b := Lib.hid (show DealBox (((w.alloc (.cells #[.int .u64 P, .int .u64 Q, .int .u64 G] 24)).alloc (.cells #[.slice (some ⟨s, o, none⟩) k cap] 33)).alloc (.cells #[.slice none 0 0, .slice none 0 0] 27)) (w.heap.size + 2) (.slice none 0 0) (.slice none 0 0) from DealBox.at _ _ _ _ (w.heap.size + 1 + 1) (by simp))
      have HBW := Lib.hid (show Below w.heap.size w (((w.alloc (.cells #[.int .u64 P, .int .u64 Q, .int .u64 G] 24)).alloc (.cells #[.slice (some ⟨s, o, none⟩) k cap] 33)).alloc (.cells #[.slice none 0 0, .slice none 0 0] 27)) from (((Below.refl _ _).alloc (by simp <;> omega) _).alloc (by simp <;> omega) _).alloc (by simp <;> omega) _)
      go_enter Try.func15, Try.ntmps15
      obtain ⟨g0, g1', g2', -⟩ := id F_g.out
      obtain ⟨l0, l1, -⟩ := id F_l.out
      obtain ⟨y0, y1, y2, y3, -⟩ := id F_b.out
      go_wp2_with fail
      clear g0 g1' g2' l0 l1 y0 y1 y2 y3
      refine (form_yes P Q G _ HH.out).mono ?_
      rintro e w1 ⟨rfl, hb1⟩
      replace F_g := Lib.hid (F_g.out.keep hb1)
      replace F_l := Lib.hid (F_l.out.keep hb1)
      replace F_b := Lib.hid (F_b.out.keep hb1)
      replace HBW := Lib.hid (HBW.out.trans (hb1.mono HBW.out.size))
      clear hb1
      obtain ⟨g0, g1', g2', -⟩ := id F_g.out
      obtain ⟨l0, l1, -⟩ := id F_l.out
      obtain ⟨y0, y1, y2, y3, -⟩ := id F_b.out
      go_wp2_with fail
      clear g0 g1' g2' l0 l1 y0 y1 y2 y3
      refine (mcontains_any _ F_g.out F_l.out.c0 F_l.out.lt (HR.out.keep HBW.out) HE.out HKL.out (by omega)).mono ?_
      rintro e w2 ⟨rfl, hb2⟩
      replace F_g := Lib.hid (F_g.out.keep hb2)
      replace F_l := Lib.hid (F_l.out.keep hb2)
      replace F_b := Lib.hid (F_b.out.keep hb2)
      replace HBW := Lib.hid (HBW.out.trans (hb2.mono HBW.out.size))
      clear hb2
      rw [HMA.out]
      obtain ⟨g0, g1', g2', -⟩ := id F_g.out
      obtain ⟨l0, l1, -⟩ := id F_l.out
      obtain ⟨y0, y1, y2, y3, -⟩ := id F_b.out
      go_wp2_with fail
      clear g0 g1' g2' l0 l1 y0 y1 y2 y3
      exact bodyPost_ret (res_deal rfl (F_b.out.stored (.slice none 0 0) (.slice none 0 0)) _ rfl rfl rfl rfl) rfl ⟨_, _, rfl, OwnU.nil _ _, OwnU.nil _ _, (HBW.out.setCell (p := ⟨w.heap.size + 2, 0, none⟩) (by show w.heap.size ≤ w.heap.size + 2; omega) _).setCell (p := ⟨w.heap.size + 2, 1, none⟩) (by show w.heap.size ≤ w.heap.size + 2; omega) _⟩
    | true =>
      obtain ⟨rfl, hps0⟩ := Prod.mk.inj (show (0, mrgP P E.xs t, mrgQ Q E.ys t) = (er, ps, ss) by
        rw [← hv]; simp only [mergeS, hH, hm, if_true, Bool.and_true]
        rw [decide_eq_true (by rw [← HKL.out]; exact hk8)]; rfl)
      obtain ⟨rfl, rfl⟩ := Prod.mk.inj hps0
      have HMA := Lib.hid hm
      have hEf := fits_true (List.all_eq_true.1 hm E (by simp))
      have b1 := belowS_true hEf.1
      have b2 := belowS_true hEf.2.1
      have en1 : 1 ≤ E.n := by rw [HEL1.out]; exact b1.1
      have en2 : 1 ≤ E.m := by rw [HEL2.out]; exact b2.1
      have en8 : E.n ≤ 8 := by rw [HEL1.out]; exact b1.2.1
      have em8 : E.m ≤ 8 := by rw [HEL2.out]; exact b2.2.1
      clear hv hH hps0 hm hEf b1 b2
      have F_g := Lib.hid (show Boxed (((w.alloc (.cells #[.int .u64 P, .int .u64 Q, .int .u64 G] 24)).alloc (.cells #[.slice (some ⟨s, o, none⟩) k cap] 33)).alloc (.cells #[.slice none 0 0, .slice none 0 0] 27)) w.heap.size P Q G from ((Boxed.at _ P Q G _ w.heap.size (by simp)).alloc _).alloc _)
      have F_l := Lib.hid (show OneAt (((w.alloc (.cells #[.int .u64 P, .int .u64 Q, .int .u64 G] 24)).alloc (.cells #[.slice (some ⟨s, o, none⟩) k cap] 33)).alloc (.cells #[.slice none 0 0, .slice none 0 0] 27)) (w.heap.size + 1) (.slice (some ⟨s, o, none⟩) k cap) from (OneAt.at _ _ _ (w.heap.size + 1) (by simp)).alloc _)
      have F_b := Lib.hid (show DealBox (((w.alloc (.cells #[.int .u64 P, .int .u64 Q, .int .u64 G] 24)).alloc (.cells #[.slice (some ⟨s, o, none⟩) k cap] 33)).alloc (.cells #[.slice none 0 0, .slice none 0 0] 27)) (w.heap.size + 2) (.slice none 0 0) (.slice none 0 0) from DealBox.at _ _ _ _ (w.heap.size + 1 + 1) (by simp))
      have HBW := Lib.hid (show Below w.heap.size w (((w.alloc (.cells #[.int .u64 P, .int .u64 Q, .int .u64 G] 24)).alloc (.cells #[.slice (some ⟨s, o, none⟩) k cap] 33)).alloc (.cells #[.slice none 0 0, .slice none 0 0] 27)) from (((Below.refl _ _).alloc (by simp <;> omega) _).alloc (by simp <;> omega) _).alloc (by simp <;> omega) _)
      go_enter Try.func15, Try.ntmps15
      obtain ⟨g0, g1', g2', -⟩ := id F_g.out
      obtain ⟨l0, l1, -⟩ := id F_l.out
      obtain ⟨y0, y1, y2, y3, -⟩ := id F_b.out
      go_wp2_with fail
      clear g0 g1' g2' l0 l1 y0 y1 y2 y3
      refine (form_yes P Q G _ HH.out).mono ?_
      rintro e w1 ⟨rfl, hb1⟩
      replace F_g := Lib.hid (F_g.out.keep hb1)
      replace F_l := Lib.hid (F_l.out.keep hb1)
      replace F_b := Lib.hid (F_b.out.keep hb1)
      replace HBW := Lib.hid (HBW.out.trans (hb1.mono HBW.out.size))
      clear hb1
      obtain ⟨g0, g1', g2', -⟩ := id F_g.out
      obtain ⟨l0, l1, -⟩ := id F_l.out
      obtain ⟨y0, y1, y2, y3, -⟩ := id F_b.out
      go_wp2_with fail
      clear g0 g1' g2' l0 l1 y0 y1 y2 y3
      refine (mcontains_any _ F_g.out F_l.out.c0 F_l.out.lt (HR.out.keep HBW.out) HE.out HKL.out (by omega)).mono ?_
      rintro e w2 ⟨rfl, hb2⟩
      replace F_g := Lib.hid (F_g.out.keep hb2)
      replace F_l := Lib.hid (F_l.out.keep hb2)
      replace F_b := Lib.hid (F_b.out.keep hb2)
      replace HBW := Lib.hid (HBW.out.trans (hb2.mono HBW.out.size))
      clear hb2
      rw [HMA.out]
      obtain ⟨g0, g1', g2', -⟩ := id F_g.out
      obtain ⟨l0, l1, -⟩ := id F_l.out
      obtain ⟨y0, y1, y2, y3, -⟩ := id F_b.out
      go_wp2_with fail
      clear g0 g1' g2' l0 l1 y0 y1 y2 y3
      go_cut [8] from 36 (fun c8 wx => ∃ B g1 g2 ca cb : Nat, c8 = .pointer (some ⟨B, 0, none⟩) ∧ Hid (MrgIn w wx P Q G (.slice (some ⟨s, o, none⟩) k cap) B g1 g2 E.n E.m ca cb E.xs E.ys))
      case first =>
        replace F_g := Lib.hid F_g.out.drew
        replace F_l := Lib.hid F_l.out.drew
        replace F_b := Lib.hid F_b.out.drew
        replace HBW := Lib.hid HBW.out.drew
        have hS := And.intro F_l.out.c0 (And.intro ((HBW.out.cell (p := ⟨s, o, none⟩) hs).trans HE0.out) ((HBW.out.cell (p := ⟨s, o + 1, none⟩) hs).trans HE1.out))
        have hzb := F_b.out.lt
        try simp only [World.size_alloc, World.size_drew] at  hzb
        refine wp_region_stage 12 (fun w' => w'.cell? ⟨w.heap.size + 1, 0, none⟩ = some (.slice (some ⟨s, o, none⟩) k cap) ∧ w'.cell? ⟨s, o, none⟩ = some (.slice E.a E.n E.c) ∧ w'.cell? ⟨s, o + 1, none⟩ = some (.slice E.b E.m E.d)) (by kernel_rfl) ?_
        refine wpAnyB_take (i := 0) (some 36) (Op.load 33 (Operand.tmp 3)) 33 (v := ?_) ⟨_, rfl, rfl, rfl, rfl, rfl⟩ (by kernel_rfl) (by kernel_rfl) (by kernel_rfl) [1, 2, 3, 4, 9, 10, 12] (by kernel_rfl) (fun _ _ _ h => h) hS (fun w' hSw => ?_) ?_
        rotate_left
        · obtain ⟨b3, b4, b5⟩ := hSw
          unfold bareOp
          go_simp
          try with_reducible rfl
        simp only [Act.put, List.setIfInBounds_toArray, List.set_cons_zero, List.set_cons_succ]
        refine wpAnyB_takeP (i := 1) (some 37) (Op.indexAddr 33 (Operand.tmp 36) (Operand.const (Value.int IntKind.i64 0))) 0 (v := ?_) ⟨_, rfl, rfl, rfl, rfl, rfl⟩ (by kernel_rfl) (by kernel_rfl) (by kernel_rfl) (by kernel_rfl) (fun _ _ _ h => h) (fun _ => hS) (fun w' => ?_) ?_
        rotate_left
        · unfold bareOp
          go_simp
          try with_reducible rfl
        simp only [Act.put, List.setIfInBounds_toArray, List.set_cons_zero, List.set_cons_succ]
        refine wpAnyB_takeP (i := 2) (some 38) (Op.fieldAddr 27 (Operand.tmp 37) 0) 0 (v := ?_) ⟨_, rfl, rfl, rfl, rfl, rfl⟩ (by kernel_rfl) (by kernel_rfl) (by kernel_rfl) (by kernel_rfl) (fun _ _ _ h => h) (fun _ => hS) (fun w' => ?_) ?_
        rotate_left
        · unfold bareOp
          go_simp
          try with_reducible rfl
        simp only [Act.put, List.setIfInBounds_toArray, List.set_cons_zero, List.set_cons_succ]
        refine wpAnyB_take (i := 3) (some 39) (Op.load 25 (Operand.tmp 38)) 25 (v := ?_) ⟨_, rfl, rfl, rfl, rfl, rfl⟩ (by kernel_rfl) (by kernel_rfl) (by kernel_rfl) [4, 9, 10, 12] (by kernel_rfl) (fun _ _ _ h => h) hS (fun w' hSw => ?_) ?_
        rotate_left
        · obtain ⟨b3, b4, b5⟩ := hSw
          unfold bareOp
          go_simp
          try with_reducible rfl
        simp only [Act.put, List.setIfInBounds_toArray, List.set_cons_zero, List.set_cons_succ]
        refine wpAnyB_take (i := 5) (some 41) (Op.load 33 (Operand.tmp 3)) 33 (v := ?_) ⟨_, rfl, rfl, rfl, rfl, rfl⟩ (by kernel_rfl) (by kernel_rfl) (by kernel_rfl) [6, 7, 8, 9, 10, 12] (by kernel_rfl) (fun _ _ _ h => h) hS (fun w' hSw => ?_) ?_
        rotate_left
        · obtain ⟨b3, b4, b5⟩ := hSw
          unfold bareOp
          go_simp
          try with_reducible rfl
        simp only [Act.put, List.setIfInBounds_toArray, List.set_cons_zero, List.set_cons_succ]
        refine wpAnyB_takeP (i := 6) (some 42) (Op.indexAddr 33 (Operand.tmp 41) (Operand.const (Value.int IntKind.i64 0))) 0 (v := ?_) ⟨_, rfl, rfl, rfl, rfl, rfl⟩ (by kernel_rfl) (by kernel_rfl) (by kernel_rfl) (by kernel_rfl) (fun _ _ _ h => h) (fun _ => hS) (fun w' => ?_) ?_
        rotate_left
        · unfold bareOp
          go_simp
          try with_reducible rfl
        simp only [Act.put, List.setIfInBounds_toArray, List.set_cons_zero, List.set_cons_succ]
        refine wpAnyB_takeP (i := 7) (some 43) (Op.fieldAddr 27 (Operand.tmp 42) 1) 0 (v := ?_) ⟨_, rfl, rfl, rfl, rfl, rfl⟩ (by kernel_rfl) (by kernel_rfl) (by kernel_rfl) (by kernel_rfl) (fun _ _ _ h => h) (fun _ => hS) (fun w' => ?_) ?_
        rotate_left
        · unfold bareOp
          go_simp
          try with_reducible rfl
        simp only [Act.put, List.setIfInBounds_toArray, List.set_cons_zero, List.set_cons_succ]
        refine wpAnyB_take (i := 8) (some 44) (Op.load 25 (Operand.tmp 43)) 25 (v := ?_) ⟨_, rfl, rfl, rfl, rfl, rfl⟩ (by kernel_rfl) (by kernel_rfl) (by kernel_rfl) [9, 10, 12] (by kernel_rfl) (fun _ _ _ h => h) hS (fun w' hSw => ?_) ?_
        rotate_left
        · obtain ⟨b3, b4, b5⟩ := hSw
          unfold bareOp
          go_simp
          try with_reducible rfl
        simp only [Act.put, List.setIfInBounds_toArray, List.set_cons_zero, List.set_cons_succ]
        refine wpAnyB_two (i := 4) (j := 11) (some 40) (Op.call { callee := Callee.value (Operand.func 51), args := #[Operand.tmp 39], argTypes := #[25] }) 25 (some 8) (Op.alloc 27) 0 ⟨_, rfl, rfl, rfl, rfl, rfl⟩ ⟨_, rfl, rfl, rfl, rfl, rfl⟩ (by kernel_rfl) (fun K hK => ?_) (fun K hK => ?_)
        · skip
          unfold bareOp
          go_wp2_with fail
          have hz1 := F_b.out.lt
          refine (sclone_any _ (HEI.out.h1.keep HBW.out) en1 (by omega)).mono ?_
          rintro e w8 ⟨v1, rfl, ho1, hb1⟩
          obtain ⟨g1, ca, rfl, hn1⟩ := ho1.of2 HEL1.out en1
          have hg1 := hn1.lt
          have hs1 := hb1.size
          replace F_g := Lib.hid (F_g.out.keep hb1)
          replace F_l := Lib.hid (F_l.out.keep hb1)
          replace F_b := Lib.hid (F_b.out.keep hb1)
          replace HBW := Lib.hid (HBW.out.trans (hb1.mono HBW.out.size))
          replace hS := And.intro F_l.out.c0 (And.intro ((HBW.out.cell (p := ⟨s, o, none⟩) hs).trans HE0.out) ((HBW.out.cell (p := ⟨s, o + 1, none⟩) hs).trans HE1.out))
          have F_1 := Lib.hid (hn1.mono (n₀ := w.heap.size + 3) (Nat.succ_le_of_lt hz1))
          clear hb1 ho1 hn1
          try simp only [World.size_alloc, World.size_drew] at hg1 hs1 hz1
          refine hK.out _ _ (fun _ => hS) ?_
          clear hK K
          try simp only [Act.put, List.setIfInBounds_toArray, List.set_cons_zero, List.set_cons_succ]
          refine wpAnyB_two (i := 9) (j := 11) (some 45) (Op.call { callee := Callee.value (Operand.func 51), args := #[Operand.tmp 44], argTypes := #[25] }) 25 (some 8) (Op.alloc 27) 0 ⟨_, rfl, rfl, rfl, rfl, rfl⟩ ⟨_, rfl, rfl, rfl, rfl, rfl⟩ (by kernel_rfl) (fun K hK => ?_) (fun K hK => ?_)
          · skip
            unfold bareOp
            go_wp2_with fail
            have hz2 := F_b.out.lt
            refine (sclone_any _ (HEI.out.h2.keep HBW.out) en2 (by omega)).mono ?_
            rintro e w9 ⟨v2, rfl, ho2, hb2⟩
            obtain ⟨g2, cb, rfl, hn2⟩ := ho2.of2 HEL2.out en2
            have hg2 := hn2.lt
            have hs2 := hb2.size
            replace F_g := Lib.hid (F_g.out.keep hb2)
            replace F_l := Lib.hid (F_l.out.keep hb2)
            replace F_b := Lib.hid (F_b.out.keep hb2)
            replace F_1 := Lib.hid (F_1.out.keep hb2)
            replace HBW := Lib.hid (HBW.out.trans (hb2.mono HBW.out.size))
            replace hS := And.intro F_l.out.c0 (And.intro ((HBW.out.cell (p := ⟨s, o, none⟩) hs).trans HE0.out) ((HBW.out.cell (p := ⟨s, o + 1, none⟩) hs).trans HE1.out))
            have F_2 := Lib.hid (hn2.mono (n₀ := w.heap.size + 3) (Nat.succ_le_of_lt hz2))
            clear hb2 ho2 hn2
            try simp only [World.size_alloc, World.size_drew] at hg2 hs2 hz2
            refine hK.out _ _ (fun _ => hS) ?_
            clear hK K
            try simp only [Act.put, List.setIfInBounds_toArray, List.set_cons_zero, List.set_cons_succ]
            refine wpAnyB_takeP (i := 10) (some 46) (Op.build 27 #[(0, Operand.tmp 40), (1, Operand.tmp 45)]) 27 (v := ?_) ⟨_, rfl, rfl, rfl, rfl, rfl⟩ (by kernel_rfl) (by kernel_rfl) (by kernel_rfl) (by kernel_rfl) (fun _ _ _ h => h) (fun _ => hS) (fun w' => ?_) ?_
            rotate_left
            · unfold bareOp
              go_simp
              try with_reducible rfl
            simp only [Act.put, List.setIfInBounds_toArray, List.set_cons_zero, List.set_cons_succ]
            refine wpAnyB_only (i := 11) (some 8) (Op.alloc 27) 0 ⟨_, rfl, rfl, rfl, rfl, rfl⟩ (by kernel_rfl) (fun K hK => ?_)
            unfold bareOp
            go_wp2_with fail
            have hS2 := And.intro (F_l.out.alloc (.cells #[.slice none 0 0, .slice none 0 0] 27)).c0 (And.intro (((HBW.out.alloc HBW.out.size (.cells #[.slice none 0 0, .slice none 0 0] 27)).cell (p := ⟨s, o, none⟩) hs).trans HE0.out) (((HBW.out.alloc HBW.out.size (.cells #[.slice none 0 0, .slice none 0 0] 27)).cell (p := ⟨s, o + 1, none⟩) hs).trans HE1.out))
            refine hK.out _ _ (fun _ => hS2) ?_
            clear hK K
            try simp only [Act.put, List.setIfInBounds_toArray, List.set_cons_zero, List.set_cons_succ]
            refine wpAnyB_only (i := 12) none (Op.store 27 (Operand.tmp 8) (Operand.tmp 46)) 0 ⟨_, rfl, rfl, rfl, rfl, rfl⟩ (by kernel_rfl) (fun K hK => ?_)
            unfold bareOp
            go_wp2_with fail
            refine hK.out _ _ (fun h => absurd (h.symm.trans (by kernel_rfl : _ = true)) (by decide)) ?_
            clear hK K
            try simp only [Act.put, List.setIfInBounds_toArray, List.set_cons_zero, List.set_cons_succ]
            refine wpAnyB_done (by kernel_rfl) ?_ _
            have hbl := F_b.out.lt
            have HM := Lib.hid (MrgIn.mk (w := w) (DealBox.at w9 (.slice (some ⟨g1, 0, none⟩) E.n ca) (.slice (some ⟨g2, 0, none⟩) E.m cb) 27 w9.heap.size rfl) (F_1.out.alloc _) (F_2.out.alloc _) (by omega) (by omega) (by omega) (by omega) (F_g.out.alloc _) (F_l.out.alloc _) (F_b.out.alloc _) (HBW.out.alloc HBW.out.size _))
            go_wp2_with fail
            go_meet
            case rel => exact ⟨_, g1, g2, ca, cb, rfl, HM.out⟩
          · skip
            unfold bareOp
            go_wp2_with fail
            replace F_g := Lib.hid (F_g.out.alloc (.cells #[.slice none 0 0, .slice none 0 0] 27))
            replace F_l := Lib.hid (F_l.out.alloc (.cells #[.slice none 0 0, .slice none 0 0] 27))
            replace F_b := Lib.hid (F_b.out.alloc (.cells #[.slice none 0 0, .slice none 0 0] 27))
            replace F_1 := Lib.hid (F_1.out.alloc (.cells #[.slice none 0 0, .slice none 0 0] 27))
            replace HBW := Lib.hid (HBW.out.alloc HBW.out.size (.cells #[.slice none 0 0, .slice none 0 0] 27))
            replace hS := And.intro F_l.out.c0 (And.intro ((HBW.out.cell (p := ⟨s, o, none⟩) hs).trans HE0.out) ((HBW.out.cell (p := ⟨s, o + 1, none⟩) hs).trans HE1.out))
            have F_o := Lib.hid (show DealBox (w8.alloc (.cells #[.slice none 0 0, .slice none 0 0] 27)) (w8.heap.size) (.slice none 0 0) (.slice none 0 0) from DealBox.at _ _ _ _ (w8.heap.size) (by simp))
            refine hK.out _ _ (fun _ => hS) ?_
            clear hK K
            try simp only [Act.put, List.setIfInBounds_toArray, List.set_cons_zero, List.set_cons_succ]
            refine wpAnyB_only (i := 9) (some 45) (Op.call { callee := Callee.value (Operand.func 51), args := #[Operand.tmp 44], argTypes := #[25] }) 25 ⟨_, rfl, rfl, rfl, rfl, rfl⟩ (by kernel_rfl) (fun K hK => ?_)
            unfold bareOp
            go_wp2_with fail
            have hz2 := F_b.out.lt
            refine (sclone_any _ (HEI.out.h2.keep HBW.out) en2 (by omega)).mono ?_
            rintro e w9 ⟨v2, rfl, ho2, hb2⟩
            obtain ⟨g2, cb, rfl, hn2⟩ := ho2.of2 HEL2.out en2
            have hg2 := hn2.lt
            have hs2 := hb2.size
            replace F_g := Lib.hid (F_g.out.keep hb2)
            replace F_l := Lib.hid (F_l.out.keep hb2)
            replace F_b := Lib.hid (F_b.out.keep hb2)
            replace F_1 := Lib.hid (F_1.out.keep hb2)
            replace F_o := Lib.hid (F_o.out.keep hb2)
            replace HBW := Lib.hid (HBW.out.trans (hb2.mono HBW.out.size))
            replace hS := And.intro F_l.out.c0 (And.intro ((HBW.out.cell (p := ⟨s, o, none⟩) hs).trans HE0.out) ((HBW.out.cell (p := ⟨s, o + 1, none⟩) hs).trans HE1.out))
            have F_2 := Lib.hid (hn2.mono (n₀ := w.heap.size + 3) (Nat.succ_le_of_lt hz2))
            clear hb2 ho2 hn2
            try simp only [World.size_alloc, World.size_drew] at hg2 hs2 hz2
            refine hK.out _ _ (fun _ => hS) ?_
            clear hK K
            try simp only [Act.put, List.setIfInBounds_toArray, List.set_cons_zero, List.set_cons_succ]
            refine wpAnyB_takeP (i := 10) (some 46) (Op.build 27 #[(0, Operand.tmp 40), (1, Operand.tmp 45)]) 27 (v := ?_) ⟨_, rfl, rfl, rfl, rfl, rfl⟩ (by kernel_rfl) (by kernel_rfl) (by kernel_rfl) (by kernel_rfl) (fun _ _ _ h => h) (fun _ => hS) (fun w' => ?_) ?_
            rotate_left
            · unfold bareOp
              go_simp
              try with_reducible rfl
            simp only [Act.put, List.setIfInBounds_toArray, List.set_cons_zero, List.set_cons_succ]
            refine wpAnyB_only (i := 12) none (Op.store 27 (Operand.tmp 8) (Operand.tmp 46)) 0 ⟨_, rfl, rfl, rfl, rfl, rfl⟩ (by kernel_rfl) (fun K hK => ?_)
            unfold bareOp
            obtain ⟨za, zb, zc, zd, -⟩ := id F_o.out
            go_wp2_with fail
            clear za zb zc zd
            refine hK.out _ _ (fun h => absurd (h.symm.trans (by kernel_rfl : _ = true)) (by decide)) ?_
            clear hK K
            try simp only [Act.put, List.setIfInBounds_toArray, List.set_cons_zero, List.set_cons_succ]
            refine wpAnyB_done (by kernel_rfl) ?_ _
            have HM := Lib.hid (MrgIn.made F_o.out F_1.out F_2.out (by omega) (by omega) (by omega) (by omega) F_g.out F_l.out F_b.out HBW.out)
            go_wp2_with fail
            go_meet
            case rel => exact ⟨_, g1, g2, ca, cb, rfl, HM.out⟩
        · skip
          unfold bareOp
          go_wp2_with fail
          replace F_g := Lib.hid (F_g.out.alloc (.cells #[.slice none 0 0, .slice none 0 0] 27))
          replace F_l := Lib.hid (F_l.out.alloc (.cells #[.slice none 0 0, .slice none 0 0] 27))
          replace F_b := Lib.hid (F_b.out.alloc (.cells #[.slice none 0 0, .slice none 0 0] 27))
          replace HBW := Lib.hid (HBW.out.alloc HBW.out.size (.cells #[.slice none 0 0, .slice none 0 0] 27))
          replace hS := And.intro F_l.out.c0 (And.intro ((HBW.out.cell (p := ⟨s, o, none⟩) hs).trans HE0.out) ((HBW.out.cell (p := ⟨s, o + 1, none⟩) hs).trans HE1.out))
          have F_o := Lib.hid (show DealBox (w2.drew.alloc (.cells #[.slice none 0 0, .slice none 0 0] 27)) (w2.heap.size) (.slice none 0 0) (.slice none 0 0) from DealBox.at _ _ _ _ (w2.heap.size) (by simp))
          refine hK.out _ _ (fun _ => hS) ?_
          clear hK K
          try simp only [Act.put, List.setIfInBounds_toArray, List.set_cons_zero, List.set_cons_succ]
          refine wpAnyB_only (i := 4) (some 40) (Op.call { callee := Callee.value (Operand.func 51), args := #[Operand.tmp 39], argTypes := #[25] }) 25 ⟨_, rfl, rfl, rfl, rfl, rfl⟩ (by kernel_rfl) (fun K hK => ?_)
          unfold bareOp
          go_wp2_with fail
          have hz1 := F_b.out.lt
          refine (sclone_any _ (HEI.out.h1.keep HBW.out) en1 (by omega)).mono ?_
          rintro e w8 ⟨v1, rfl, ho1, hb1⟩
          obtain ⟨g1, ca, rfl, hn1⟩ := ho1.of2 HEL1.out en1
          have hg1 := hn1.lt
          have hs1 := hb1.size
          replace F_g := Lib.hid (F_g.out.keep hb1)
          replace F_l := Lib.hid (F_l.out.keep hb1)
          replace F_b := Lib.hid (F_b.out.keep hb1)
          replace F_o := Lib.hid (F_o.out.keep hb1)
          replace HBW := Lib.hid (HBW.out.trans (hb1.mono HBW.out.size))
          replace hS := And.intro F_l.out.c0 (And.intro ((HBW.out.cell (p := ⟨s, o, none⟩) hs).trans HE0.out) ((HBW.out.cell (p := ⟨s, o + 1, none⟩) hs).trans HE1.out))
          have F_1 := Lib.hid (hn1.mono (n₀ := w.heap.size + 3) (Nat.succ_le_of_lt hz1))
          clear hb1 ho1 hn1
          try simp only [World.size_alloc, World.size_drew] at hg1 hs1 hz1
          refine hK.out _ _ (fun _ => hS) ?_
          clear hK K
          try simp only [Act.put, List.setIfInBounds_toArray, List.set_cons_zero, List.set_cons_succ]
          refine wpAnyB_only (i := 9) (some 45) (Op.call { callee := Callee.value (Operand.func 51), args := #[Operand.tmp 44], argTypes := #[25] }) 25 ⟨_, rfl, rfl, rfl, rfl, rfl⟩ (by kernel_rfl) (fun K hK => ?_)
          unfold bareOp
          go_wp2_with fail
          have hz2 := F_b.out.lt
          refine (sclone_any _ (HEI.out.h2.keep HBW.out) en2 (by omega)).mono ?_
          rintro e w9 ⟨v2, rfl, ho2, hb2⟩
          obtain ⟨g2, cb, rfl, hn2⟩ := ho2.of2 HEL2.out en2
          have hg2 := hn2.lt
          have hs2 := hb2.size
          replace F_g := Lib.hid (F_g.out.keep hb2)
          replace F_l := Lib.hid (F_l.out.keep hb2)
          replace F_b := Lib.hid (F_b.out.keep hb2)
          replace F_o := Lib.hid (F_o.out.keep hb2)
          replace F_1 := Lib.hid (F_1.out.keep hb2)
          replace HBW := Lib.hid (HBW.out.trans (hb2.mono HBW.out.size))
          replace hS := And.intro F_l.out.c0 (And.intro ((HBW.out.cell (p := ⟨s, o, none⟩) hs).trans HE0.out) ((HBW.out.cell (p := ⟨s, o + 1, none⟩) hs).trans HE1.out))
          have F_2 := Lib.hid (hn2.mono (n₀ := w.heap.size + 3) (Nat.succ_le_of_lt hz2))
          clear hb2 ho2 hn2
          try simp only [World.size_alloc, World.size_drew] at hg2 hs2 hz2
          refine hK.out _ _ (fun _ => hS) ?_
          clear hK K
          try simp only [Act.put, List.setIfInBounds_toArray, List.set_cons_zero, List.set_cons_succ]
          refine wpAnyB_takeP (i := 10) (some 46) (Op.build 27 #[(0, Operand.tmp 40), (1, Operand.tmp 45)]) 27 (v := ?_) ⟨_, rfl, rfl, rfl, rfl, rfl⟩ (by kernel_rfl) (by kernel_rfl) (by kernel_rfl) (by kernel_rfl) (fun _ _ _ h => h) (fun _ => hS) (fun w' => ?_) ?_
          rotate_left
          · unfold bareOp
            go_simp
            try with_reducible rfl
          simp only [Act.put, List.setIfInBounds_toArray, List.set_cons_zero, List.set_cons_succ]
          refine wpAnyB_only (i := 12) none (Op.store 27 (Operand.tmp 8) (Operand.tmp 46)) 0 ⟨_, rfl, rfl, rfl, rfl, rfl⟩ (by kernel_rfl) (fun K hK => ?_)
          unfold bareOp
          obtain ⟨za, zb, zc, zd, -⟩ := id F_o.out
          go_wp2_with fail
          clear za zb zc zd
          refine hK.out _ _ (fun h => absurd (h.symm.trans (by kernel_rfl : _ = true)) (by decide)) ?_
          clear hK K
          try simp only [Act.put, List.setIfInBounds_toArray, List.set_cons_zero, List.set_cons_succ]
          refine wpAnyB_done (by kernel_rfl) ?_ _
          have HM := Lib.hid (MrgIn.made F_o.out F_1.out F_2.out (by omega) (by omega) (by omega) (by omega) F_g.out F_l.out F_b.out HBW.out)
          go_wp2_with fail
          go_meet
          case rel => exact ⟨_, g1, g2, ca, cb, rfl, HM.out⟩
      case rest =>
        obtain ⟨B, g1, g2, ca, cb, rfl, HM⟩ := hcut
        clear F_g F_l F_b HBW
        have h1k : 1 ≤ k := by omega
        have h1c : 1 < cap := by omega
        have h1ki : (1 : Int) ≤ (k : Int) := by omega
        have h1ci : (1 : Int) < (cap : Int) := by omega
        have hkci : (k : Int) ≤ (cap : Int) := by omega
        obtain ⟨l0, l1, -⟩ := id HM.out.l
        go_wp2_with fail
        clear l0 l1
        have HEX1 := Lib.hid (belowS_bd (fits_true (List.all_eq_true.1 HMA.out E (by simp))).1 HEI.out.u1)
        have HEX2 := Lib.hid (belowS_bd (fits_true (List.all_eq_true.1 HMA.out E (by simp))).2.1 HEI.out.u2)
        have HFT := Lib.hid (show ∀ D, D ∈ t → fitsS P Q D.xs D.ys E.xs E.ys = true from fun D hD => List.all_eq_true.1 HMA.out D (by simp [hD]))
        have HTL := Lib.hid (show t.length = k - 1 by have := HKL.out; simp at this; omega)
        go_loopw [50] (fun c50 wr => ∃ i : Nat, i ≤ k - 1 ∧ c50 = .int .i64 i ∧ Hid (MrgIn w wr P Q G (.slice (some ⟨s, o, none⟩) k cap) B g1 g2 E.n E.m ca cb (mrgP P E.xs (t.take i)) (mrgQ Q E.ys (t.take i)))) (fun c50 _ => k - 1 - (intOf c50).toNat)
        case atStart => exact ⟨0, Nat.zero_le _, rfl, HM.out⟩
        case round =>
          clear HM
          obtain ⟨i, hi, rfl, HM⟩ := hrel
          obtain ⟨wo, rfl⟩ : ∃ wo : World, wo = wr := ⟨_, rfl⟩
          by_cases hlt : i < k - 1
          case neg =>
            rw [List.take_of_length_le (by rw [HTL.out]; omega)] at HM
            have hnlt : ¬ ((i : Int) < ((k - 1 : Nat) : Int)) := by omega
            have hnlt2 : ¬ ((i : Int) < (k : Int) - 1) := by omega
            obtain ⟨x0, x1, x2, x3, -⟩ := id HM.out.box
            obtain ⟨y0, y1, y2, y3, -⟩ := id HM.out.b
            go_wp2_with fail
            exact bodyPost_ret (res_deal rfl (HM.out.b.stored (.slice (some ⟨g1, 0, none⟩) E.n ca) (.slice (some ⟨g2, 0, none⟩) E.m cb)) _ rfl rfl rfl rfl) rfl ⟨_, _, rfl, ((HM.out.r1.own.far (b := w.heap.size + 2) (o := 0) (Nat.lt_succ_self _) _).far (b := w.heap.size + 2) (o := 1) (Nat.lt_succ_self _) _).mono (by omega), ((HM.out.r2.own.far (b := w.heap.size + 2) (o := 0) (Nat.lt_succ_self _) _).far (b := w.heap.size + 2) (o := 1) (Nat.lt_succ_self _) _).mono (by omega), (HM.out.bel.setCell (p := ⟨w.heap.size + 2, 0, none⟩) (by show w.heap.size ≤ w.heap.size + 2; omega) _).setCell (p := ⟨w.heap.size + 2, 1, none⟩) (by show w.heap.size ≤ w.heap.size + 2; omega) _⟩
          case pos =>
            have hit : i < t.length := by rw [HTL.out]; exact hlt
            obtain ⟨D, hD⟩ : ∃ D, t[i] = D := ⟨_, rfl⟩
            have hil : i + 1 < (E :: t).length := by simp; omega
            have hDt : (E :: t)[i + 1] = D := by simpa using hD
            have hDm : D ∈ t := by rw [← hD]; exact List.getElem_mem hit
            have HDC0 := Lib.hid (show w.cell? ⟨s, o + 2 + i * 2, none⟩ = some (.slice D.a D.n D.c) by have := (HR.out.c (i + 1) hil).1; rw [hDt] at this; rwa [show o + (i + 1) * 2 = o + 2 + i * 2 by omega] at this)
            have HDC1 := Lib.hid (show w.cell? ⟨s, o + 2 + i * 2 + 1, none⟩ = some (.slice D.b D.m D.d) by have := (HR.out.c (i + 1) hil).2; rw [hDt] at this; rwa [show o + (i + 1) * 2 = o + 2 + i * 2 by omega] at this)
            have HDI := Lib.hid (show DlIn w D from HR.out.ok D (by simp [hDm]))
            have HDF := Lib.hid (fits_true (HFT.out D hDm))
            have HTK := Lib.hid (show t.take (i + 1) = t.take i ++ [D] by rw [List.take_succ_eq_append_getElem hit, hD])
            have hc0 := (HM.out.bel.cell (p := ⟨s, o + 2 + i * 2, none⟩) hs).trans HDC0.out
            have hc1 := (HM.out.bel.cell (p := ⟨s, o + 2 + i * 2 + 1, none⟩) hs).trans HDC1.out
            have hi0 : (0 : Int) ≤ (i : Int) := by omega
            have hlt1 : (i : Int) < ((k - 1 : Nat) : Int) := by omega
            have hDn : 1 ≤ D.n := by rw [HDI.out.h1.len]; exact (belowS_true HDF.out.1).1
            have hDm1 : 1 ≤ D.m := by rw [HDI.out.h2.len]; exact (belowS_true HDF.out.2.1).1
            have hDn8 : D.n ≤ 8 := by rw [HDI.out.h1.len]; exact (belowS_true HDF.out.1).2.1
            have hDm8 : D.m ≤ 8 := by rw [HDI.out.h2.len]; exact (belowS_true HDF.out.2.1).2.1
            obtain ⟨s3, o3, ha3, -, hs3, hcx⟩ := shI_some HDI.out.h1 hDn
            obtain ⟨s4, o4, hb3, -, hs4, hcy⟩ := shI_some HDI.out.h2 hDm1
            rw [ha3] at hc0
            rw [hb3] at hc1
            have HCX := Lib.hid hcx
            have HCY := Lib.hid hcy
            have HXR := Lib.hid (belowS_bd HDF.out.1 HDI.out.u1)
            have HYR := Lib.hid (belowS_bd HDF.out.2.1 HDI.out.u2)
            have HNX := Lib.hid (show D.n = D.xs.length from HDI.out.h1.len)
            have HNY := Lib.hid (show D.m = D.ys.length from HDI.out.h2.len)
            obtain ⟨os, hos⟩ : ∃ z, mrgP P E.xs (t.take i) = z := ⟨_, rfl⟩
            obtain ⟨qs, hqs⟩ : ∃ z, mrgQ Q E.ys (t.take i) = z := ⟨_, rfl⟩
            have HOK := Lib.hid (mrgP_ok (P := P) (by omega) (t.take i) E.xs (fun F hF => (fits_true (HFT.out F (List.mem_of_mem_take hF))).2.2.2.1) HEX1.out)
            have HQK := Lib.hid (mrgQ_ok (P := Q) (by omega) (t.take i) E.ys (fun F hF => (fits_true (HFT.out F (List.mem_of_mem_take hF))).2.2.2.2) HEX2.out)
            have HPN := Lib.hid (show mrgP P E.xs (t.take (i + 1)) = List.zipWith (mulF P) os D.xs by rw [HTK.out, mrgP_snoc, hos])
            have HQN := Lib.hid (show mrgQ Q E.ys (t.take (i + 1)) = List.zipWith (addF Q) qs D.ys by rw [HTK.out, mrgQ_snoc, hqs])
            rw [hos, hqs] at HM
            rw [hos] at HOK
            rw [hqs] at HQK
            have hgl1 := HM.out.r1.lt.2
            have hgl2 := HM.out.r2.lt.2
            clear hD hDt hDm hcx hcy ha3 hb3 hos hqs
            go_wp2_with fail
            clear hc0 hc1
            have F_m := Lib.hid (HM.out.alloc (.cells #[.slice (some ⟨s3, o3, none⟩) D.n D.c, .slice (some ⟨s4, o4, none⟩) D.m D.d] 27))
            have F_d := Lib.hid (DealBox.at wo (.slice (some ⟨s3, o3, none⟩) D.n D.c) (.slice (some ⟨s4, o4, none⟩) D.m D.d) 27 wo.heap.size rfl)
            have HLE := Lib.hid (show D.n = E.n by rw [HNX.out, HEL1.out]; exact HDF.out.2.2.2.1)
            have HLO := Lib.hid (show os.length = D.n by rw [HLE.out, HEL1.out]; exact HOK.out.1)
            go_loopw [57] (fun c9 wr => ∃ j : Nat, j ≤ D.n ∧ c9 = .int .i64 j ∧ ∃ p1 : List Int, Hid (OpIn (mulF P) os D.xs j p1) ∧ Hid (MrgIn w wr P Q G (.slice (some ⟨s, o, none⟩) k cap) B g1 g2 E.n E.m ca cb p1 qs) ∧ Hid (DealBox wr wo.heap.size (.slice (some ⟨s3, o3, none⟩) D.n D.c) (.slice (some ⟨s4, o4, none⟩) D.m D.d))) (fun c9 _ => D.n - (intOf c9).toNat)
            case atStart => exact ⟨0, Nat.zero_le _, rfl, os, OpIn.start _ _ _, F_m.out, F_d.out⟩
            case round =>
              clear F_m F_d
              obtain ⟨j, hj, rfl, p1, HO, F_m, F_d⟩ := hrel
              by_cases hjl : j < D.n
              case neg =>
                have HZ := Lib.hid (show p1 = List.zipWith (mulF P) os D.xs from HO.out.done (by rw [HLO.out]; omega) (by rw [HLO.out, HNX.out]))
                have hjn : ¬ ((j : Int) < (D.n : Int)) := by omega
                have HZ1 := HZ
                clear HZ HLE HLO HO
                obtain ⟨os2, hos2⟩ : ∃ z, z = p1 := ⟨_, rfl⟩
                rw [← hos2] at F_m HZ1
                clear hos2
                obtain ⟨z0, z1, -⟩ := id F_d.out
                go_wp2_with fail
                clear z0 z1
                have HLE := Lib.hid (show D.m = E.m by rw [HNY.out, HEL2.out]; exact HDF.out.2.2.2.2)
                have HLO := Lib.hid (show qs.length = D.m by rw [HLE.out, HEL2.out]; exact HQK.out.1)
                go_loopw [81] (fun c9 wr => ∃ j : Nat, j ≤ D.m ∧ c9 = .int .i64 j ∧ ∃ p1 : List Int, Hid (OpIn (addF Q) qs D.ys j p1) ∧ Hid (MrgIn w wr P Q G (.slice (some ⟨s, o, none⟩) k cap) B g1 g2 E.n E.m ca cb os2 p1) ∧ Hid (DealBox wr wo.heap.size (.slice (some ⟨s3, o3, none⟩) D.n D.c) (.slice (some ⟨s4, o4, none⟩) D.m D.d))) (fun c9 _ => D.m - (intOf c9).toNat)
                case atStart => exact ⟨0, Nat.zero_le _, rfl, qs, OpIn.start _ _ _, F_m.out, F_d.out⟩
                case round =>
                  clear F_m F_d
                  obtain ⟨j, hj, rfl, p1, HO, F_m, F_d⟩ := hrel
                  by_cases hjl : j < D.m
                  case neg =>
                    have HZ := Lib.hid (show p1 = List.zipWith (addF Q) qs D.ys from HO.out.done (by rw [HLO.out]; omega) (by rw [HLO.out, HNY.out]))
                    have hjn : ¬ ((j : Int) < (D.m : Int)) := by omega
                    have HZ2 := HZ
                    go_wp2_with fail
                    go_roundw
                    case rel => first | exact ⟨i + 1, by omega, by go_num, by rw [HPN.out, HQN.out, ← HZ1.out, ← HZ2.out]; exact F_m.out⟩ | ((repeat apply Exists.intro); exact ⟨⟨i + 1, by omega, by go_num, by rw [HPN.out, HQN.out, ← HZ1.out, ← HZ2.out]; exact F_m.out⟩, rfl⟩)
                    case measure => simp [intOf] <;> omega
                  case pos =>
                    have hj0 : (0 : Int) ≤ (j : Int) := by omega
                    have hj1 : (j : Int) < (D.m : Int) := by omega
                    have hjE : j < E.m := by rw [← HLE.out]; exact hjl
                    have hj2 : (j : Int) < (E.m : Int) := by omega
                    have hwj : IntKind.i64.wrap ((j : Int) + 1) = (j : Int) + 1 := IntWalk.i64_in _ (by omega)
                    obtain ⟨x, hx⟩ : ∃ z, p1.getD j 0 = z := ⟨_, rfl⟩
                    obtain ⟨y, hy⟩ : ∃ z, (D.ys).getD j 0 = z := ⟨_, rfl⟩
                    obtain ⟨x0, xL⟩ := show 0 ≤ x ∧ x < Q by rw [← hx]; exact HO.out.rng (by omega) (addF_rng (by omega)) HQK.out.2 j
                    obtain ⟨y0, yL⟩ := show 0 ≤ y ∧ y < Q by
                      rw [← hy, getD_at (by rw [← HNY.out]; exact hjl)]; exact HYR.out _ (List.getElem_mem _)
                    have hcy := (F_m.out.bel.cell (p := ⟨s4, o4 + j, none⟩) (by first | exact hs3 | exact hs4)).trans (HCY.out j hjl)
                    rw [hy] at hcy
                    obtain ⟨v, hv⟩ : ∃ z, addF Q x y = z := ⟨_, rfl⟩
                    have HST := Lib.hid (show OpIn (addF Q) qs D.ys (j + 1) (p1.set j v) by
                      have := HO.out.step (by rw [HLO.out]; exact hjl)
                      rwa [hx, hy, hv] at this)
                    have HT := Lib.hid hv
                    have HX := Lib.hid hx
                    have HBW := Lib.hid F_m.out.bel
                    clear hx hy hv
                    go_wp2_with fail
                    clear hcy
                    replace F_m := Lib.hid F_m.out.drew
                    replace F_d := Lib.hid F_d.out.drew
                    replace HBW := Lib.hid HBW.out.drew
                    have hS := And.intro F_m.out.g.s (And.intro F_m.out.box.c1 ((F_m.out.r2.at hjE).trans (congrArg (fun z => some (Value.int IntKind.u64 z)) HX.out)))
                    refine wp_region_stage 12 (fun w' => SBox w' w.heap.size P Q G ∧ w'.cell? ⟨B, 1, none⟩ = some (.slice (some ⟨g2, 0, none⟩) E.m cb) ∧ w'.cell? ⟨g2, j, none⟩ = some (.int .u64 x)) (by kernel_rfl) ?_
                    refine wpAnyB_takeP (i := 0) (some 86) (Op.fieldAddr 27 (Operand.tmp 8) 1) 0 (v := ?_) ⟨_, rfl, rfl, rfl, rfl, rfl⟩ (by kernel_rfl) (by kernel_rfl) (by kernel_rfl) (by kernel_rfl) (fun _ _ _ h => h) (fun _ => hS) (fun w' => ?_) ?_
                    rotate_left
                    · unfold bareOp
                      go_simp
                      try with_reducible rfl
                    simp only [Act.put, List.setIfInBounds_toArray, List.set_cons_zero, List.set_cons_succ]
                    refine wpAnyB_take (i := 1) (some 87) (Op.load 25 (Operand.tmp 86)) 25 (v := ?_) ⟨_, rfl, rfl, rfl, rfl, rfl⟩ (by kernel_rfl) (by kernel_rfl) (by kernel_rfl) [11, 12] (by kernel_rfl) (fun _ _ _ h => h) hS (fun w' hSw => ?_) ?_
                    rotate_left
                    · obtain ⟨⟨b0, b1, b2⟩, b3, b4⟩ := hSw
                      unfold bareOp
                      go_simp
                      try with_reducible rfl
                    simp only [Act.put, List.setIfInBounds_toArray, List.set_cons_zero, List.set_cons_succ]
                    refine wpAnyB_takeP (i := 2) (some 88) (Op.move (Operand.tmp 13)) 3 (v := ?_) ⟨_, rfl, rfl, rfl, rfl, rfl⟩ (by kernel_rfl) (by kernel_rfl) (by kernel_rfl) (by kernel_rfl) (fun _ _ _ h => h) (fun _ => hS) (fun w' => ?_) ?_
                    rotate_left
                    · unfold bareOp
                      go_simp
                      try with_reducible rfl
                    simp only [Act.put, List.setIfInBounds_toArray, List.set_cons_zero, List.set_cons_succ]
                    refine wpAnyB_take (i := 3) (some 89) (Op.load 24 (Operand.tmp 2)) 24 (v := ?_) ⟨_, rfl, rfl, rfl, rfl, rfl⟩ (by kernel_rfl) (by kernel_rfl) (by kernel_rfl) [10, 11, 12] (by kernel_rfl) (fun _ _ _ h => h) hS (fun w' hSw => ?_) ?_
                    rotate_left
                    · obtain ⟨⟨b0, b1, b2⟩, b3, b4⟩ := hSw
                      unfold bareOp
                      go_simp
                      try with_reducible rfl
                    simp only [Act.put, List.setIfInBounds_toArray, List.set_cons_zero, List.set_cons_succ]
                    refine wpAnyB_takeP (i := 4) (some 90) (Op.fieldAddr 27 (Operand.tmp 8) 1) 0 (v := ?_) ⟨_, rfl, rfl, rfl, rfl, rfl⟩ (by kernel_rfl) (by kernel_rfl) (by kernel_rfl) (by kernel_rfl) (fun _ _ _ h => h) (fun _ => hS) (fun w' => ?_) ?_
                    rotate_left
                    · unfold bareOp
                      go_simp
                      try with_reducible rfl
                    simp only [Act.put, List.setIfInBounds_toArray, List.set_cons_zero, List.set_cons_succ]
                    refine wpAnyB_take (i := 5) (some 91) (Op.load 25 (Operand.tmp 90)) 25 (v := ?_) ⟨_, rfl, rfl, rfl, rfl, rfl⟩ (by kernel_rfl) (by kernel_rfl) (by kernel_rfl) [7, 8, 10, 11, 12] (by kernel_rfl) (fun _ _ _ h => h) hS (fun w' hSw => ?_) ?_
                    rotate_left
                    · obtain ⟨⟨b0, b1, b2⟩, b3, b4⟩ := hSw
                      unfold bareOp
                      go_simp
                      try with_reducible rfl
                    simp only [Act.put, List.setIfInBounds_toArray, List.set_cons_zero, List.set_cons_succ]
                    refine wpAnyB_takeP (i := 6) (some 92) (Op.move (Operand.tmp 13)) 3 (v := ?_) ⟨_, rfl, rfl, rfl, rfl, rfl⟩ (by kernel_rfl) (by kernel_rfl) (by kernel_rfl) (by kernel_rfl) (fun _ _ _ h => h) (fun _ => hS) (fun w' => ?_) ?_
                    rotate_left
                    · unfold bareOp
                      go_simp
                      try with_reducible rfl
                    simp only [Act.put, List.setIfInBounds_toArray, List.set_cons_zero, List.set_cons_succ]
                    refine wpAnyB_takeP (i := 7) (some 93) (Op.indexAddr 25 (Operand.tmp 91) (Operand.tmp 92)) 0 (v := ?_) ⟨_, rfl, rfl, rfl, rfl, rfl⟩ (by kernel_rfl) (by kernel_rfl) (by kernel_rfl) (by kernel_rfl) (fun _ _ _ h => h) (fun _ => hS) (fun w' => ?_) ?_
                    rotate_left
                    · unfold bareOp
                      go_simp
                      try with_reducible rfl
                    simp only [Act.put, List.setIfInBounds_toArray, List.set_cons_zero, List.set_cons_succ]
                    refine wpAnyB_take (i := 8) (some 94) (Op.load 22 (Operand.tmp 93)) 22 (v := ?_) ⟨_, rfl, rfl, rfl, rfl, rfl⟩ (by kernel_rfl) (by kernel_rfl) (by kernel_rfl) [10, 11, 12] (by kernel_rfl) (fun _ _ _ h => h) hS (fun w' hSw => ?_) ?_
                    rotate_left
                    · obtain ⟨⟨b0, b1, b2⟩, b3, b4⟩ := hSw
                      unfold bareOp
                      go_simp
                      try with_reducible rfl
                    simp only [Act.put, List.setIfInBounds_toArray, List.set_cons_zero, List.set_cons_succ]
                    refine wpAnyB_takeP (i := 9) (some 95) (Op.move (Operand.tmp 14)) 22 (v := ?_) ⟨_, rfl, rfl, rfl, rfl, rfl⟩ (by kernel_rfl) (by kernel_rfl) (by kernel_rfl) (by kernel_rfl) (fun _ _ _ h => h) (fun _ => hS) (fun w' => ?_) ?_
                    rotate_left
                    · unfold bareOp
                      go_simp
                      try with_reducible rfl
                    simp only [Act.put, List.setIfInBounds_toArray, List.set_cons_zero, List.set_cons_succ]
                    refine wpAnyB_only (i := 10) (some 96) (Op.call { callee := Callee.value (Operand.func 53), args := #[Operand.tmp 89, Operand.tmp 94, Operand.tmp 95], argTypes := #[24, 22, 22] }) 22 ⟨_, rfl, rfl, rfl, rfl, rfl⟩ (by kernel_rfl) (fun K hK => ?_)
                    unfold bareOp
                    go_wp2_with (go_at_call 53; refine (splus_ok _ HH.out x0 xL y0 yL HT.out).mono ?_; rintro e w8 ⟨rfl, hb8⟩)
                    replace F_m := Lib.hid (F_m.out.keep hb8)
                    replace F_d := Lib.hid (F_d.out.keep hb8)
                    replace HBW := Lib.hid (HBW.out.trans (hb8.mono HBW.out.size))
                    replace hS := And.intro F_m.out.g.s (And.intro F_m.out.box.c1 ((F_m.out.r2.at hjE).trans (congrArg (fun z => some (Value.int IntKind.u64 z)) HX.out)))
                    clear hb8
                    refine hK.out _ _ (fun _ => hS) ?_
                    clear hK K
                    try simp only [Act.put, List.setIfInBounds_toArray, List.set_cons_zero, List.set_cons_succ]
                    refine wpAnyB_takeP (i := 11) (some 97) (Op.indexAddr 25 (Operand.tmp 87) (Operand.tmp 88)) 0 (v := ?_) ⟨_, rfl, rfl, rfl, rfl, rfl⟩ (by kernel_rfl) (by kernel_rfl) (by kernel_rfl) (by kernel_rfl) (fun _ _ _ h => h) (fun _ => hS) (fun w' => ?_) ?_
                    rotate_left
                    · unfold bareOp
                      go_simp
                      try with_reducible rfl
                    simp only [Act.put, List.setIfInBounds_toArray, List.set_cons_zero, List.set_cons_succ]
                    refine wpAnyB_only (i := 12) none (Op.store 22 (Operand.tmp 97) (Operand.tmp 96)) 0 ⟨_, rfl, rfl, rfl, rfl, rfl⟩ (by kernel_rfl) (fun K hK => ?_)
                    unfold bareOp
                    have hcs := hS.2.2
                    have hfs := F_m.out.r2.fz j
                    go_wp2_with fail
                    refine hK.out _ _ (fun h => absurd (h.symm.trans (by kernel_rfl : _ = true)) (by decide)) ?_
                    clear hK K
                    try simp only [Act.put, List.setIfInBounds_toArray, List.set_cons_zero, List.set_cons_succ]
                    refine wpAnyB_done (by kernel_rfl) ?_ _
                    replace F_m := Lib.hid (F_m.out.set2 j v)
                    replace F_d := Lib.hid (F_d.out.far1 (c := g2) (o := j) (u := .int .u64 v) (by omega))
                    clear hS
                    go_wp2_with fail
                    go_roundw
                    case rel => first | exact ⟨j + 1, by omega, by go_num, _, HST.out, F_m.out, F_d.out⟩ | ((repeat apply Exists.intro); exact ⟨⟨j + 1, by omega, by go_num, _, HST.out, F_m.out, F_d.out⟩, rfl⟩)
                    case measure => simp [intOf] <;> omega
              case pos =>
                have hj0 : (0 : Int) ≤ (j : Int) := by omega
                have hj1 : (j : Int) < (D.n : Int) := by omega
                have hjE : j < E.n := by rw [← HLE.out]; exact hjl
                have hj2 : (j : Int) < (E.n : Int) := by omega
                have hwj : IntKind.i64.wrap ((j : Int) + 1) = (j : Int) + 1 := IntWalk.i64_in _ (by omega)
                obtain ⟨x, hx⟩ : ∃ z, p1.getD j 0 = z := ⟨_, rfl⟩
                obtain ⟨y, hy⟩ : ∃ z, (D.xs).getD j 0 = z := ⟨_, rfl⟩
                obtain ⟨x0, xL⟩ := show 0 ≤ x ∧ x < P by rw [← hx]; exact HO.out.rng (by omega) (mulF_rng (by omega)) HOK.out.2 j
                obtain ⟨y0, yL⟩ := show 0 ≤ y ∧ y < P by
                  rw [← hy, getD_at (by rw [← HNX.out]; exact hjl)]; exact HXR.out _ (List.getElem_mem _)
                have hcy := (F_m.out.bel.cell (p := ⟨s3, o3 + j, none⟩) (by first | exact hs3 | exact hs4)).trans (HCX.out j hjl)
                rw [hy] at hcy
                obtain ⟨v, hv⟩ : ∃ z, mulF P x y = z := ⟨_, rfl⟩
                have HST := Lib.hid (show OpIn (mulF P) os D.xs (j + 1) (p1.set j v) by
                  have := HO.out.step (by rw [HLO.out]; exact hjl)
                  rwa [hx, hy, hv] at this)
                have HT := Lib.hid hv
                have HX := Lib.hid hx
                have HBW := Lib.hid F_m.out.bel
                clear hx hy hv
                go_wp2_with fail
                clear hcy
                replace F_m := Lib.hid F_m.out.drew
                replace F_d := Lib.hid F_d.out.drew
                replace HBW := Lib.hid HBW.out.drew
                have hS := And.intro F_m.out.g.s (And.intro F_m.out.box.c0 ((F_m.out.r1.at hjE).trans (congrArg (fun z => some (Value.int IntKind.u64 z)) HX.out)))
                refine wp_region_stage 15 (fun w' => SBox w' w.heap.size P Q G ∧ w'.cell? ⟨B, 0, none⟩ = some (.slice (some ⟨g1, 0, none⟩) E.n ca) ∧ w'.cell? ⟨g1, j, none⟩ = some (.int .u64 x)) (by kernel_rfl) ?_
                refine wpAnyB_takeP (i := 0) (some 63) (Op.fieldAddr 27 (Operand.tmp 8) 0) 0 (v := ?_) ⟨_, rfl, rfl, rfl, rfl, rfl⟩ (by kernel_rfl) (by kernel_rfl) (by kernel_rfl) (by kernel_rfl) (fun _ _ _ h => h) (fun _ => hS) (fun w' => ?_) ?_
                rotate_left
                · unfold bareOp
                  go_simp
                  try with_reducible rfl
                simp only [Act.put, List.setIfInBounds_toArray, List.set_cons_zero, List.set_cons_succ]
                refine wpAnyB_take (i := 1) (some 64) (Op.load 25 (Operand.tmp 63)) 25 (v := ?_) ⟨_, rfl, rfl, rfl, rfl, rfl⟩ (by kernel_rfl) (by kernel_rfl) (by kernel_rfl) [14, 15] (by kernel_rfl) (fun _ _ _ h => h) hS (fun w' hSw => ?_) ?_
                rotate_left
                · obtain ⟨⟨b0, b1, b2⟩, b3, b4⟩ := hSw
                  unfold bareOp
                  go_simp
                  try with_reducible rfl
                simp only [Act.put, List.setIfInBounds_toArray, List.set_cons_zero, List.set_cons_succ]
                refine wpAnyB_takeP (i := 2) (some 65) (Op.move (Operand.tmp 11)) 3 (v := ?_) ⟨_, rfl, rfl, rfl, rfl, rfl⟩ (by kernel_rfl) (by kernel_rfl) (by kernel_rfl) (by kernel_rfl) (fun _ _ _ h => h) (fun _ => hS) (fun w' => ?_) ?_
                rotate_left
                · unfold bareOp
                  go_simp
                  try with_reducible rfl
                simp only [Act.put, List.setIfInBounds_toArray, List.set_cons_zero, List.set_cons_succ]
                refine wpAnyB_take (i := 3) (some 66) (Op.load 24 (Operand.tmp 2)) 24 (v := ?_) ⟨_, rfl, rfl, rfl, rfl, rfl⟩ (by kernel_rfl) (by kernel_rfl) (by kernel_rfl) [10, 11, 12, 14, 15] (by kernel_rfl) (fun _ _ _ h => h) hS (fun w' hSw => ?_) ?_
                rotate_left
                · obtain ⟨⟨b0, b1, b2⟩, b3, b4⟩ := hSw
                  unfold bareOp
                  go_simp
                  try with_reducible rfl
                simp only [Act.put, List.setIfInBounds_toArray, List.set_cons_zero, List.set_cons_succ]
                refine wpAnyB_takeP (i := 4) (some 67) (Op.fieldAddr 27 (Operand.tmp 8) 0) 0 (v := ?_) ⟨_, rfl, rfl, rfl, rfl, rfl⟩ (by kernel_rfl) (by kernel_rfl) (by kernel_rfl) (by kernel_rfl) (fun _ _ _ h => h) (fun _ => hS) (fun w' => ?_) ?_
                rotate_left
                · unfold bareOp
                  go_simp
                  try with_reducible rfl
                simp only [Act.put, List.setIfInBounds_toArray, List.set_cons_zero, List.set_cons_succ]
                refine wpAnyB_take (i := 5) (some 68) (Op.load 25 (Operand.tmp 67)) 25 (v := ?_) ⟨_, rfl, rfl, rfl, rfl, rfl⟩ (by kernel_rfl) (by kernel_rfl) (by kernel_rfl) [7, 8, 10, 11, 12, 14, 15] (by kernel_rfl) (fun _ _ _ h => h) hS (fun w' hSw => ?_) ?_
                rotate_left
                · obtain ⟨⟨b0, b1, b2⟩, b3, b4⟩ := hSw
                  unfold bareOp
                  go_simp
                  try with_reducible rfl
                simp only [Act.put, List.setIfInBounds_toArray, List.set_cons_zero, List.set_cons_succ]
                refine wpAnyB_takeP (i := 6) (some 69) (Op.move (Operand.tmp 11)) 3 (v := ?_) ⟨_, rfl, rfl, rfl, rfl, rfl⟩ (by kernel_rfl) (by kernel_rfl) (by kernel_rfl) (by kernel_rfl) (fun _ _ _ h => h) (fun _ => hS) (fun w' => ?_) ?_
                rotate_left
                · unfold bareOp
                  go_simp
                  try with_reducible rfl
                simp only [Act.put, List.setIfInBounds_toArray, List.set_cons_zero, List.set_cons_succ]
                refine wpAnyB_takeP (i := 7) (some 70) (Op.indexAddr 25 (Operand.tmp 68) (Operand.tmp 69)) 0 (v := ?_) ⟨_, rfl, rfl, rfl, rfl, rfl⟩ (by kernel_rfl) (by kernel_rfl) (by kernel_rfl) (by kernel_rfl) (fun _ _ _ h => h) (fun _ => hS) (fun w' => ?_) ?_
                rotate_left
                · unfold bareOp
                  go_simp
                  try with_reducible rfl
                simp only [Act.put, List.setIfInBounds_toArray, List.set_cons_zero, List.set_cons_succ]
                refine wpAnyB_take (i := 8) (some 71) (Op.load 22 (Operand.tmp 70)) 22 (v := ?_) ⟨_, rfl, rfl, rfl, rfl, rfl⟩ (by kernel_rfl) (by kernel_rfl) (by kernel_rfl) [10, 11, 12, 14, 15] (by kernel_rfl) (fun _ _ _ h => h) hS (fun w' hSw => ?_) ?_
                rotate_left
                · obtain ⟨⟨b0, b1, b2⟩, b3, b4⟩ := hSw
                  unfold bareOp
                  go_simp
                  try with_reducible rfl
                simp only [Act.put, List.setIfInBounds_toArray, List.set_cons_zero, List.set_cons_succ]
                refine wpAnyB_takeP (i := 9) (some 72) (Op.move (Operand.tmp 12)) 22 (v := ?_) ⟨_, rfl, rfl, rfl, rfl, rfl⟩ (by kernel_rfl) (by kernel_rfl) (by kernel_rfl) (by kernel_rfl) (fun _ _ _ h => h) (fun _ => hS) (fun w' => ?_) ?_
                rotate_left
                · unfold bareOp
                  go_simp
                  try with_reducible rfl
                simp only [Act.put, List.setIfInBounds_toArray, List.set_cons_zero, List.set_cons_succ]
                refine wpAnyB_only (i := 10) (some 73) (Op.call { callee := Callee.value (Operand.func 52), args := #[Operand.tmp 66, Operand.tmp 71, Operand.tmp 72], argTypes := #[24, 22, 22] }) 39 ⟨_, rfl, rfl, rfl, rfl, rfl⟩ (by kernel_rfl) (fun K hK => ?_)
                unfold bareOp
                go_wp2_with (go_at_call 52; refine (mul_ok P Q G x y v _ HH.out x0 xL y0 yL HT.out).mono ?_; rintro e w8 ⟨rfl, hb8⟩)
                replace F_m := Lib.hid (F_m.out.keep hb8)
                replace F_d := Lib.hid (F_d.out.keep hb8)
                replace HBW := Lib.hid (HBW.out.trans (hb8.mono HBW.out.size))
                replace hS := And.intro F_m.out.g.s (And.intro F_m.out.box.c0 ((F_m.out.r1.at hjE).trans (congrArg (fun z => some (Value.int IntKind.u64 z)) HX.out)))
                clear hb8
                refine hK.out _ _ (fun _ => hS) ?_
                clear hK K
                try simp only [Act.put, List.setIfInBounds_toArray, List.set_cons_zero, List.set_cons_succ]
                refine wpAnyB_takeP (i := 11) (some 62) (Op.move (Operand.tmp 73)) 39 (v := ?_) ⟨_, rfl, rfl, rfl, rfl, rfl⟩ (by kernel_rfl) (by kernel_rfl) (by kernel_rfl) (by kernel_rfl) (fun _ _ _ h => h) (fun _ => hS) (fun w' => ?_) ?_
                rotate_left
                · unfold bareOp
                  go_simp
                  try with_reducible rfl
                simp only [Act.put, List.setIfInBounds_toArray, List.set_cons_zero, List.set_cons_succ]
                refine wpAnyB_takeP (i := 12) (some 74) (Op.extract (Operand.tmp 62) 0) 22 (v := ?_) ⟨_, rfl, rfl, rfl, rfl, rfl⟩ (by kernel_rfl) (by kernel_rfl) (by kernel_rfl) (by kernel_rfl) (fun _ _ _ h => h) (fun _ => hS) (fun w' => ?_) ?_
                rotate_left
                · unfold bareOp
                  go_simp
                  try with_reducible rfl
                simp only [Act.put, List.setIfInBounds_toArray, List.set_cons_zero, List.set_cons_succ]
                refine wpAnyB_takeP (i := 13) (some 75) (Op.extract (Operand.tmp 62) 1) 30 (v := ?_) ⟨_, rfl, rfl, rfl, rfl, rfl⟩ (by kernel_rfl) (by kernel_rfl) (by kernel_rfl) (by kernel_rfl) (fun _ _ _ h => h) (fun _ => hS) (fun w' => ?_) ?_
                rotate_left
                · unfold bareOp
                  go_simp
                  try with_reducible rfl
                simp only [Act.put, List.setIfInBounds_toArray, List.set_cons_zero, List.set_cons_succ]
                refine wpAnyB_takeP (i := 14) (some 76) (Op.indexAddr 25 (Operand.tmp 64) (Operand.tmp 65)) 0 (v := ?_) ⟨_, rfl, rfl, rfl, rfl, rfl⟩ (by kernel_rfl) (by kernel_rfl) (by kernel_rfl) (by kernel_rfl) (fun _ _ _ h => h) (fun _ => hS) (fun w' => ?_) ?_
                rotate_left
                · unfold bareOp
                  go_simp
                  try with_reducible rfl
                simp only [Act.put, List.setIfInBounds_toArray, List.set_cons_zero, List.set_cons_succ]
                refine wpAnyB_only (i := 15) none (Op.store 22 (Operand.tmp 76) (Operand.tmp 74)) 0 ⟨_, rfl, rfl, rfl, rfl, rfl⟩ (by kernel_rfl) (fun K hK => ?_)
                unfold bareOp
                have hcs := hS.2.2
                have hfs := F_m.out.r1.fz j
                go_wp2_with fail
                refine hK.out _ _ (fun h => absurd (h.symm.trans (by kernel_rfl : _ = true)) (by decide)) ?_
                clear hK K
                try simp only [Act.put, List.setIfInBounds_toArray, List.set_cons_zero, List.set_cons_succ]
                refine wpAnyB_done (by kernel_rfl) ?_ _
                replace F_m := Lib.hid (F_m.out.set1 j v)
                replace F_d := Lib.hid (F_d.out.far1 (c := g1) (o := j) (u := .int .u64 v) (by omega))
                clear hS
                go_wp2_with fail
                go_roundw
                case rel => first | exact ⟨j + 1, by omega, by go_num, _, HST.out, F_m.out, F_d.out⟩ | ((repeat apply Exists.intro); exact ⟨⟨j + 1, by omega, by go_num, _, HST.out, F_m.out, F_d.out⟩, rfl⟩)
                case measure => simp [intOf] <;> omega
end Go.Proofs.Ytjfaaicbojnpaaa
