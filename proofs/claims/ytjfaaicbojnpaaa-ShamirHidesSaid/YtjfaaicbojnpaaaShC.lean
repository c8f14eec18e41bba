/- shamir.Split; the reference's Of and Split. -/
import Derived.Test.YtjfaaicbojnpaaaShB
import Derived.Test.YtjfaaicbojnpaaaDeal
import Derived.IntWalk
namespace Go.Proofs.Ytjfaaicbojnpaaa
open Go.RowKit Num
set_option linter.unusedSimpArgs false
set_option linter.unusedVariables false

def pledgesS (P G : Int) (xs : List Int) : List Int := xs.map fun x => powm G x P
def sharesS (Q : Int) (xs : List Int) (n : Nat) : List Int := (List.range n).map fun j : Nat => valS Q ((j : Int) + 1) xs
/-- The deal: the error, the pledges, the shares. -/
def splitS (P Q G n : Int) (xs : List Int) : Int × List Int × List Int :=
  if Has P Q G then (if belowS Q xs && (decide ((xs.length : Int) ≤ n) && numS Q n) then (0, pledgesS P G xs, sharesS Q xs n.toNat) else (2, [], [])) else (300, [], [])
/-- A deal of the call's own. -/
def RetDeal (w : World) (er : Int) (ps ss : List Int) (e : Ending) (w' : World) : Prop :=
  ∃ v1 v2, e = .returned (.tuple #[.agg #[v1, v2], .int .i64 er]) ∧ OwnU w' w.heap.size v1 ps ∧ OwnU w' w.heap.size v2 ss ∧ Below w.heap.size w w'
def RetOne (w : World) (ps ss : List Int) (e : Ending) (w' : World) : Prop :=
  ∃ v1 v2, e = .returned (.agg #[v1, v2]) ∧ OwnU w' w.heap.size v1 ps ∧ OwnU w' w.heap.size v2 ss ∧ Below w.heap.size w w'
theorem pledges_snoc (P G : Int) (xs : List Int) (k : Nat) (h : k < xs.length) : pledgesS P G (xs.take (k + 1)) = pledgesS P G (xs.take k) ++ [powm G (xs.getD k 0) P] := by
  rw [List.take_succ_eq_append_getElem h, pledgesS, List.map_append, List.getD_eq_getElem?_getD, List.getElem?_eq_getElem h]; rfl
theorem shares_snoc (Q : Int) (xs : List Int) (k : Nat) : sharesS Q xs (k + 1) = sharesS Q xs k ++ [valS Q ((k : Int) + 1) xs] := by
  rw [sharesS, List.range_succ, List.map_append]; rfl
theorem pledges_len (P G : Int) (xs : List Int) : (pledgesS P G xs).length = xs.length := by simp [pledgesS]
theorem shares_len (Q : Int) (xs : List Int) (n : Nat) : (sharesS Q xs n).length = n := by simp [sharesS]
theorem cell_one (W : World) (x : Value) (t : TypeId) : (W.alloc (.cells #[x] t)).cell? ⟨W.heap.size, 0, none⟩ = some x := by rw [World.cell?_alloc_new]; rfl
theorem slice_cells (a : Option Addr) (n c : Nat) : (Value.slice a n c).cells = #[.slice a n c] := rfl
theorem Below.deal {B n₀ : Nat} {W W' : World} (h : Below B W W') : B ≤ B := Nat.le_refl _
theorem OwnU.sl {W : World} {n₀ : Nat} {v : Value} {xs : List Int} (h : OwnU W n₀ v xs) : ∃ a c, v = .slice a xs.length c := by
  obtain ⟨a, c, h, -⟩ := h.shI
  exact ⟨a, c, h⟩

set_option maxRecDepth 100000 in
set_option maxHeartbeats 8000000 in
theorem sSplit_any {P Q G i er : Int} {ps ss : List Int} {a : Option Addr} {n c : Nat} {xs : List Int} (w : World) (hP : 0 ≤ P) (hQ : 0 ≤ Q) (hG : 0 ≤ G) (il : -9223372036854775808 ≤ i) (iu : i ≤ 9223372036854775807) (h : ShI .u64 w a n xs) (hn : n ≤ 1000000) (hx : ∀ x, x ∈ xs → U64 x) (hr : splitS P Q G i xs = (er, ps, ss)) :
    Calls Try.prog 21 #[.agg #[.int .u64 P, .int .u64 Q, .int .u64 G], .slice a n c, .int .i64 i] w (RetDeal w er ps ss) := by
  have HS := Lib.hid h
  have HLN := Lib.hid h.len
  clear h
  by_cases hH : Has P Q G
  case neg =>
    obtain ⟨rfl, hps0⟩ := Prod.mk.inj (show (300, [], []) = (er, ps, ss) by rw [← hr]; simp [splitS, hH])
    obtain ⟨rfl, rfl⟩ := Prod.mk.inj hps0
    have HA := Lib.hid (askS_no (es := []) (ns := []) hH)
    have HH := Lib.hid hH
    clear hr hH hps0
    have F_g := Lib.hid (show Boxed ((w.alloc (.cells #[.int .u64 P, .int .u64 Q, .int .u64 G] 24)).alloc (.cells #[.slice none 0 0, .slice none 0 0] 27)) w.heap.size P Q G from (Boxed.at _ P Q G _ w.heap.size (by simp)).alloc _)
    have F_r := Lib.hid (show DealBox ((w.alloc (.cells #[.int .u64 P, .int .u64 Q, .int .u64 G] 24)).alloc (.cells #[.slice none 0 0, .slice none 0 0] 27)) (w.heap.size + 1) (.slice none 0 0) (.slice none 0 0) from DealBox.at _ _ _ _ (w.heap.size + 1) (by simp))
    have HBW := Lib.hid (show Below w.heap.size w ((w.alloc (.cells #[.int .u64 P, .int .u64 Q, .int .u64 G] 24)).alloc (.cells #[.slice none 0 0, .slice none 0 0] 27)) from ((Below.refl _ _).alloc (by simp <;> omega) _).alloc (by simp <;> omega) _)
    go_enter Try.func21, Try.ntmps21
    obtain ⟨x0a, x0b, x0c, -⟩ := id F_g.out
    obtain ⟨y0a, y0b, y0c, y0d, -⟩ := id F_r.out
    go_wp2_with fail
    clear x0a x0b x0c y0a y0b y0c y0d
    refine (form_no P Q G _ hP hQ hG HH.out).mono ?_
    rintro e w1 ⟨rfl, hb1⟩
    replace F_g := Lib.hid (F_g.out.keep hb1)
    replace F_r := Lib.hid (F_r.out.keep hb1)
    replace HBW := Lib.hid (HBW.out.trans (hb1.mono HBW.out.size))
    clear hb1
    obtain ⟨x0a, x0b, x0c, -⟩ := id F_g.out
    obtain ⟨y0a, y0b, y0c, y0d, -⟩ := id F_r.out
    go_wp2_with fail
    exact bodyPost_ret (res_deal rfl (F_r.out.stored (.slice none 0 0) (.slice none 0 0)) _ rfl rfl rfl rfl) rfl ⟨_, _, rfl, OwnU.nil _ _, OwnU.nil _ _, (HBW.out.setCell (by simp <;> omega) _).setCell (by simp <;> omega) _⟩
  case pos =>
    have HA := Lib.hid (askS_ok (es := []) (ns := []) hH (by simp) (by simp))
    obtain ⟨p5, p3, hQ', pq, g2, gP⟩ := id hH
    have q3 : Q < 1073741824 := by omega
    have q1 : 1 < Q := by omega
    have HH := Lib.hid hH
    clear pq
    cases hb : belowS Q xs
    case false =>
      obtain ⟨rfl, hps0⟩ := Prod.mk.inj (show (2, [], []) = (er, ps, ss) by rw [← hr]; simp [splitS, hH, hb])
      obtain ⟨rfl, rfl⟩ := Prod.mk.inj hps0
      have HB := Lib.hid hb
      clear hr hb hH hps0
      have F_g := Lib.hid (show Boxed ((w.alloc (.cells #[.int .u64 P, .int .u64 Q, .int .u64 G] 24)).alloc (.cells #[.slice none 0 0, .slice none 0 0] 27)) w.heap.size P Q G from (Boxed.at _ P Q G _ w.heap.size (by simp)).alloc _)
      have F_r := Lib.hid (show DealBox ((w.alloc (.cells #[.int .u64 P, .int .u64 Q, .int .u64 G] 24)).alloc (.cells #[.slice none 0 0, .slice none 0 0] 27)) (w.heap.size + 1) (.slice none 0 0) (.slice none 0 0) from DealBox.at _ _ _ _ (w.heap.size + 1) (by simp))
      have HBW := Lib.hid (show Below w.heap.size w ((w.alloc (.cells #[.int .u64 P, .int .u64 Q, .int .u64 G] 24)).alloc (.cells #[.slice none 0 0, .slice none 0 0] 27)) from ((Below.refl _ _).alloc (by simp <;> omega) _).alloc (by simp <;> omega) _)
      go_enter Try.func21, Try.ntmps21
      obtain ⟨x0a, x0b, x0c, -⟩ := id F_g.out
      obtain ⟨y0a, y0b, y0c, y0d, -⟩ := id F_r.out
      go_wp2_with fail
      clear x0a x0b x0c y0a y0b y0c y0d
      refine (form_yes P Q G _ HH.out).mono ?_
      rintro e w1 ⟨rfl, hb1⟩
      replace F_g := Lib.hid (F_g.out.keep hb1)
      replace F_r := Lib.hid (F_r.out.keep hb1)
      replace HBW := Lib.hid (HBW.out.trans (hb1.mono HBW.out.size))
      clear hb1
      obtain ⟨x0a, x0b, x0c, -⟩ := id F_g.out
      obtain ⟨y0a, y0b, y0c, y0d, -⟩ := id F_r.out
      go_wp2_with fail
      clear x0a x0b x0c y0a y0b y0c y0d
      refine (sbelow_any _ (HS.out.keep HBW.out) HB.out).mono ?_
      rintro e w2 ⟨rfl, hb2⟩
      replace F_g := Lib.hid (F_g.out.keep hb2)
      replace F_r := Lib.hid (F_r.out.keep hb2)
      replace HBW := Lib.hid (HBW.out.trans (hb2.mono HBW.out.size))
      clear hb2
      obtain ⟨x0a, x0b, x0c, -⟩ := id F_g.out
      obtain ⟨y0a, y0b, y0c, y0d, -⟩ := id F_r.out
      go_wp2_with fail
      exact bodyPost_ret (res_deal rfl (F_r.out.stored (.slice none 0 0) (.slice none 0 0)) _ rfl rfl rfl rfl) rfl ⟨_, _, rfl, OwnU.nil _ _, OwnU.nil _ _, (HBW.out.setCell (by simp <;> omega) _).setCell (by simp <;> omega) _⟩
    case true =>
      by_cases hln : (xs.length : Int) ≤ i
      case neg =>
        obtain ⟨rfl, hps0⟩ := Prod.mk.inj (show (2, [], []) = (er, ps, ss) by rw [← hr]; simp [splitS, hH, hb, hln])
        obtain ⟨rfl, rfl⟩ := Prod.mk.inj hps0
        have HB := Lib.hid hb
        have dl : decide (i < (n : Int)) = true := by rw [HLN.out]; simp; omega
        clear hr hb hH hln hps0
        have F_g := Lib.hid (show Boxed ((w.alloc (.cells #[.int .u64 P, .int .u64 Q, .int .u64 G] 24)).alloc (.cells #[.slice none 0 0, .slice none 0 0] 27)) w.heap.size P Q G from (Boxed.at _ P Q G _ w.heap.size (by simp)).alloc _)
        have F_r := Lib.hid (show DealBox ((w.alloc (.cells #[.int .u64 P, .int .u64 Q, .int .u64 G] 24)).alloc (.cells #[.slice none 0 0, .slice none 0 0] 27)) (w.heap.size + 1) (.slice none 0 0) (.slice none 0 0) from DealBox.at _ _ _ _ (w.heap.size + 1) (by simp))
        have HBW := Lib.hid (show Below w.heap.size w ((w.alloc (.cells #[.int .u64 P, .int .u64 Q, .int .u64 G] 24)).alloc (.cells #[.slice none 0 0, .slice none 0 0] 27)) from ((Below.refl _ _).alloc (by simp <;> omega) _).alloc (by simp <;> omega) _)
        go_enter Try.func21, Try.ntmps21
        obtain ⟨x0a, x0b, x0c, -⟩ := id F_g.out
        obtain ⟨y0a, y0b, y0c, y0d, -⟩ := id F_r.out
        go_wp2_with fail
        clear x0a x0b x0c y0a y0b y0c y0d
        refine (form_yes P Q G _ HH.out).mono ?_
        rintro e w1 ⟨rfl, hb1⟩
        replace F_g := Lib.hid (F_g.out.keep hb1)
        replace F_r := Lib.hid (F_r.out.keep hb1)
        replace HBW := Lib.hid (HBW.out.trans (hb1.mono HBW.out.size))
        clear hb1
        obtain ⟨x0a, x0b, x0c, -⟩ := id F_g.out
        obtain ⟨y0a, y0b, y0c, y0d, -⟩ := id F_r.out
        go_wp2_with fail
        clear x0a x0b x0c y0a y0b y0c y0d
        refine (sbelow_any _ (HS.out.keep HBW.out) HB.out).mono ?_
        rintro e w2 ⟨rfl, hb2⟩
        replace F_g := Lib.hid (F_g.out.keep hb2)
        replace F_r := Lib.hid (F_r.out.keep hb2)
        replace HBW := Lib.hid (HBW.out.trans (hb2.mono HBW.out.size))
        clear hb2
        obtain ⟨x0a, x0b, x0c, -⟩ := id F_g.out
        obtain ⟨y0a, y0b, y0c, y0d, -⟩ := id F_r.out
        go_wp2_with fail
        exact bodyPost_ret (res_deal rfl (F_r.out.stored (.slice none 0 0) (.slice none 0 0)) _ rfl rfl rfl rfl) rfl ⟨_, _, rfl, OwnU.nil _ _, OwnU.nil _ _, (HBW.out.setCell (by simp <;> omega) _).setCell (by simp <;> omega) _⟩
      case pos =>
        have dl : decide (i < (n : Int)) = false := by rw [HLN.out]; simp; omega
        cases hnu : numS Q i
        case false =>
          obtain ⟨rfl, hps0⟩ := Prod.mk.inj (show (2, [], []) = (er, ps, ss) by rw [← hr]; simp [splitS, hH, hb, hln, hnu])
          obtain ⟨rfl, rfl⟩ := Prod.mk.inj hps0
          have HB := Lib.hid hb
          have HN := Lib.hid hnu
          clear hr hb hnu hH hln hps0
          have F_g := Lib.hid (show Boxed ((w.alloc (.cells #[.int .u64 P, .int .u64 Q, .int .u64 G] 24)).alloc (.cells #[.slice none 0 0, .slice none 0 0] 27)) w.heap.size P Q G from (Boxed.at _ P Q G _ w.heap.size (by simp)).alloc _)
          have F_r := Lib.hid (show DealBox ((w.alloc (.cells #[.int .u64 P, .int .u64 Q, .int .u64 G] 24)).alloc (.cells #[.slice none 0 0, .slice none 0 0] 27)) (w.heap.size + 1) (.slice none 0 0) (.slice none 0 0) from DealBox.at _ _ _ _ (w.heap.size + 1) (by simp))
          have HBW := Lib.hid (show Below w.heap.size w ((w.alloc (.cells #[.int .u64 P, .int .u64 Q, .int .u64 G] 24)).alloc (.cells #[.slice none 0 0, .slice none 0 0] 27)) from ((Below.refl _ _).alloc (by simp <;> omega) _).alloc (by simp <;> omega) _)
          go_enter Try.func21, Try.ntmps21
          obtain ⟨x0a, x0b, x0c, -⟩ := id F_g.out
          obtain ⟨y0a, y0b, y0c, y0d, -⟩ := id F_r.out
          go_wp2_with fail
          clear x0a x0b x0c y0a y0b y0c y0d
          refine (form_yes P Q G _ HH.out).mono ?_
          rintro e w1 ⟨rfl, hb1⟩
          replace F_g := Lib.hid (F_g.out.keep hb1)
          replace F_r := Lib.hid (F_r.out.keep hb1)
          replace HBW := Lib.hid (HBW.out.trans (hb1.mono HBW.out.size))
          clear hb1
          obtain ⟨x0a, x0b, x0c, -⟩ := id F_g.out
          obtain ⟨y0a, y0b, y0c, y0d, -⟩ := id F_r.out
          go_wp2_with fail
          clear x0a x0b x0c y0a y0b y0c y0d
          refine (sbelow_any _ (HS.out.keep HBW.out) HB.out).mono ?_
          rintro e w2 ⟨rfl, hb2⟩
          replace F_g := Lib.hid (F_g.out.keep hb2)
          replace F_r := Lib.hid (F_r.out.keep hb2)
          replace HBW := Lib.hid (HBW.out.trans (hb2.mono HBW.out.size))
          clear hb2
          obtain ⟨x0a, x0b, x0c, -⟩ := id F_g.out
          obtain ⟨y0a, y0b, y0c, y0d, -⟩ := id F_r.out
          go_wp2_with fail
          clear x0a x0b x0c y0a y0b y0c y0d
          refine (snumbered_any _ il iu HN.out).mono ?_
          rintro e w3 ⟨rfl, hb3⟩
          replace F_g := Lib.hid (F_g.out.keep hb3)
          replace F_r := Lib.hid (F_r.out.keep hb3)
          replace HBW := Lib.hid (HBW.out.trans (hb3.mono HBW.out.size))
          clear hb3
          obtain ⟨x0a, x0b, x0c, -⟩ := id F_g.out
          obtain ⟨y0a, y0b, y0c, y0d, -⟩ := id F_r.out
          go_wp2_with fail
          exact bodyPost_ret (res_deal rfl (F_r.out.stored (.slice none 0 0) (.slice none 0 0)) _ rfl rfl rfl rfl) rfl ⟨_, _, rfl, OwnU.nil _ _, OwnU.nil _ _, (HBW.out.setCell (by simp <;> omega) _).setCell (by simp <;> omega) _⟩
        case true =>
          obtain ⟨rfl, hps0⟩ := Prod.mk.inj (show (0, pledgesS P G xs, sharesS Q xs i.toNat) = (er, ps, ss) by rw [← hr]; simp [splitS, hH, hb, hln, hnu])
          obtain ⟨hps, hss⟩ := Prod.mk.inj hps0
          have HPS := Lib.hid hps
          have HSS := Lib.hid hss
          have HX := Lib.hid (belowS_bd hb hx)
          obtain ⟨i0', i8, iQ⟩ := numS_true hnu
          obtain ⟨l1, l8, -⟩ := belowS_true hb
          have hni : (n : Int) ≤ i := by rw [HLN.out]; exact hln
          rw [← HLN.out] at l1 l8
          have HB := Lib.hid hb
          have HN := Lib.hid hnu
          clear hr hb hnu hH hx hps hss hps0 hln
          have F_g := Lib.hid (show Boxed ((w.alloc (.cells #[.int .u64 P, .int .u64 Q, .int .u64 G] 24)).alloc (.cells #[.slice none 0 0, .slice none 0 0] 27)) w.heap.size P Q G from (Boxed.at _ P Q G _ w.heap.size (by simp)).alloc _)
          have F_r := Lib.hid (show DealBox ((w.alloc (.cells #[.int .u64 P, .int .u64 Q, .int .u64 G] 24)).alloc (.cells #[.slice none 0 0, .slice none 0 0] 27)) (w.heap.size + 1) (.slice none 0 0) (.slice none 0 0) from DealBox.at _ _ _ _ (w.heap.size + 1) (by simp))
          have HBW := Lib.hid (show Below w.heap.size w ((w.alloc (.cells #[.int .u64 P, .int .u64 Q, .int .u64 G] 24)).alloc (.cells #[.slice none 0 0, .slice none 0 0] 27)) from ((Below.refl _ _).alloc (by simp <;> omega) _).alloc (by simp <;> omega) _)
          go_enter Try.func21, Try.ntmps21
          obtain ⟨x0a, x0b, x0c, -⟩ := id F_g.out
          obtain ⟨y0a, y0b, y0c, y0d, -⟩ := id F_r.out
          go_wp2_with fail
          clear x0a x0b x0c y0a y0b y0c y0d
          refine (form_yes P Q G _ HH.out).mono ?_
          rintro e w1 ⟨rfl, hb1⟩
          replace F_g := Lib.hid (F_g.out.keep hb1)
          replace F_r := Lib.hid (F_r.out.keep hb1)
          replace HBW := Lib.hid (HBW.out.trans (hb1.mono HBW.out.size))
          clear hb1
          obtain ⟨x0a, x0b, x0c, -⟩ := id F_g.out
          obtain ⟨y0a, y0b, y0c, y0d, -⟩ := id F_r.out
          go_wp2_with fail
          clear x0a x0b x0c y0a y0b y0c y0d
          refine (sbelow_any _ (HS.out.keep HBW.out) HB.out).mono ?_
          rintro e w2 ⟨rfl, hb2⟩
          replace F_g := Lib.hid (F_g.out.keep hb2)
          replace F_r := Lib.hid (F_r.out.keep hb2)
          replace HBW := Lib.hid (HBW.out.trans (hb2.mono HBW.out.size))
          clear hb2
          obtain ⟨x0a, x0b, x0c, -⟩ := id F_g.out
          obtain ⟨y0a, y0b, y0c, y0d, -⟩ := id F_r.out
          go_wp2_with fail
          clear x0a x0b x0c y0a y0b y0c y0d
          refine (snumbered_any _ il iu HN.out).mono ?_
          rintro e w3 ⟨rfl, hb3⟩
          replace F_g := Lib.hid (F_g.out.keep hb3)
          replace F_r := Lib.hid (F_r.out.keep hb3)
          replace HBW := Lib.hid (HBW.out.trans (hb3.mono HBW.out.size))
          clear hb3
          obtain ⟨x0a, x0b, x0c, -⟩ := id F_g.out
          obtain ⟨y0a, y0b, y0c, y0d, -⟩ := id F_r.out
          have hz9 := HBW.out.size
          have hrl := F_r.out.lt
          go_wp2_with fail
          clear x0a x0b x0c y0a y0b y0c y0d
          obtain ⟨dB, hdB⟩ : ∃ dB, w3.heap.size = dB := ⟨_, rfl⟩
          obtain ⟨i0, hi, hz0, hz1, hz2⟩ := info_parts (P := Try.prog) (e := 22) (z := .int .u64 0) (size := 1) (bytes := 8) (by kernel_rfl)
          have F_d := Lib.hid (DealAt.at w3 27 dB hdB.symm)
          replace F_g := Lib.hid (F_g.out.alloc (.cells #[.slice none 0 0, .slice none 0 0] 27))
          replace F_r := Lib.hid (F_r.out.alloc (.cells #[.slice none 0 0, .slice none 0 0] 27))
          replace HBW := Lib.hid (HBW.out.alloc hz9 (.cells #[.slice none 0 0, .slice none 0 0] 27))
          rw [hdB] at hrl hz9 ⊢
          have hrl' : w.heap.size + 1 < dB := hrl
          clear hdB hrl
          go_loopw [11, 12, 13, 41] (fun c11 c12 c13 c41 wr => ∃ k : Nat, k ≤ n ∧ c41 = .int .i64 k ∧ ∃ v1 : Value, Hid (Boxed wr w.heap.size P Q G) ∧ Hid (DealBox wr (w.heap.size + 1) (.slice none 0 0) (.slice none 0 0)) ∧ Hid (DealAt wr dB (dB + 1) v1 (.slice none 0 0) (pledgesS P G (xs.take k)) []) ∧ Hid (Below w.heap.size w wr)) (fun _ _ _ c41 _ => n - (intOf c41).toNat)
          case atStart => exact ⟨0, Nat.zero_le _, rfl, _, F_g.out, F_r.out, F_d.out, HBW.out⟩
          case round =>
            clear F_g F_r F_d HBW
            obtain ⟨k, hk, rfl, v1, F_g, F_r, F_d, HBW⟩ := hrel
            by_cases hlt : k < n
            case pos =>
              obtain ⟨s, f, hsa, hsl, hck, hmem⟩ := HS.out.at k hlt
              have hck' := (HBW.out.cell (p := ⟨s, f + k, none⟩) hsl).trans hck
              clear hck
              obtain ⟨y, hy⟩ : ∃ y, xs.getD k 0 = y := ⟨_, rfl⟩
              rw [hy] at hck' hmem
              have y0 := (HX.out y hmem).1
              have yQ := (HX.out y hmem).2
              have UY := Lib.hid (show U64 y from ⟨y0, by omega⟩)
              have HY := Lib.hid hy
              clear hmem hy
              subst hsa
              have hk0 : (0 : Int) ≤ (k : Int) := by omega
              have hk1 : (k : Int) < (n : Int) := by omega
              have g0 : 0 ≤ G := by omega
              obtain ⟨t, ht⟩ : ∃ t, powm G y P = t := ⟨_, rfl⟩
              have HT := Lib.hid ht
              clear ht
              obtain ⟨x0a, x0b, x0c, -⟩ := id F_g.out
              go_wp2_with fail
              clear x0a x0b x0c
              refine (pow_ok P Q G G y t _ HH.out g0 gP UY.out HT.out).mono ?_
              rintro e w5 ⟨rfl, hb5⟩
              replace F_g := Lib.hid (F_g.out.keep hb5)
              replace F_r := Lib.hid (F_r.out.keep hb5)
              replace F_d := Lib.hid (F_d.out.keep hb5)
              replace HBW := Lib.hid (HBW.out.trans (hb5.mono HBW.out.size))
              clear hb5 hck'
              have HLK := Lib.hid (show (pledgesS P G (xs.take k)).length = k by rw [pledges_len, List.length_take, ← HLN.out]; omega)
              have d0 := F_d.out.c0
              have d1 := F_d.out.lt
              go_wp2_with (at_builtin; (refine wpList_append_own_at _ rfl _ _ 25 rfl (dB + 1) 22 i0 (.int .u64 0) 1 8 Try.underlying25 hi hz0 hz1 hz2 rfl (by decide) _ _ _ rfl (F_d.out.alloc _).r1 _ 1 1 [.int .u64 t] rfl rfl (cell_one_new _ _ _) (by simp [Value.oneCell']) (by unfold maxLen; rw [HLK.out]; omega) (by rw [HLK.out]; omega) (by have := F_d.out.lt; simp; omega) ?_; intro v' w9 hown hgr hnil hat; obtain ⟨g', cap', rfl⟩ := ownsRow_succ hown; have F_p := Lib.hid ((F_d.out.alloc _).push1 hown hgr hat); obtain ⟨a0, a1, a2, a3, -, -⟩ := (F_d.out.alloc _).grown hgr (fun k hk => (F_d.out.r1.lt k hk).1); clear hown hgr hnil hat))
              have HPB := Lib.hid F_p.out.2
              have hsz5 := HPB.out.size
              go_roundw
              case rel => exact ⟨k + 1, by omega, by go_num, _, (F_g.out.alloc _).keepN HPB.out (by omega), (F_r.out.alloc _).keepN HPB.out (by omega), (by rw [pledges_snoc P G xs k (by rw [← HLN.out]; exact hlt), HY.out, HT.out]; exact F_p.out.1), (HBW.out.alloc HBW.out.size _).trans (HPB.out.mono (by omega))⟩
              case measure => simp [intOf]; omega
            case neg =>
              have hkn : k = n := by omega
              rw [hkn, HLN.out, List.take_length] at F_d
              clear hkn
              have hz9 := HBW.out.size
              obtain ⟨x0a, x0b, x0c, -⟩ := id F_g.out
              go_wp2_with fail
              clear x0a x0b x0c
              go_loopw [14, 61] (fun c14 c61 wr => ∃ j : Nat, (j : Int) ≤ i ∧ c61 = .int .i64 j ∧ ∃ v2 : Value, Hid (Boxed wr w.heap.size P Q G) ∧ Hid (DealBox wr (w.heap.size + 1) (.slice none 0 0) (.slice none 0 0)) ∧ Hid (DealAt wr dB (dB + 1) v1 v2 (pledgesS P G xs) (sharesS Q xs j)) ∧ Hid (Below w.heap.size w wr)) (fun _ c61 _ => (i + 1 - intOf c61).toNat)
              case atStart => exact ⟨0, i0', rfl, _, F_g.out, F_r.out, F_d.out, HBW.out⟩
              case round =>
                clear F_g F_r F_d HBW hz9
                obtain ⟨j, hji, rfl, v2, F_g, F_r, F_d, HBW⟩ := hrel
                have hj0 : (0 : Int) ≤ (j : Int) := by omega
                have hwj : IntKind.i64.wrap ((j : Int) + 1) = (j : Int) + 1 := IntWalk.i64_in _ (by omega)
                by_cases hlt : (j : Int) < i
                case pos =>
                  obtain ⟨t, ht⟩ : ∃ t, valS Q ((j : Int) + 1) xs = t := ⟨_, rfl⟩
                  have HV2 := Lib.hid ht
                  clear ht
                  go_wp2_with fail
                  replace F_g := Lib.hid F_g.out.drew
                  replace F_r := Lib.hid F_r.out.drew
                  replace F_d := Lib.hid F_d.out.drew
                  replace HBW := Lib.hid HBW.out.drew
                  have hS := And.intro F_g.out.s F_d.out.c1
                  refine wp_region_stage 10 (fun w' => SBox w' w.heap.size P Q G ∧ w'.cell? ⟨dB, 1, none⟩ = some v2) (by kernel_rfl) ?_
                  refine wpAnyB_takeP (i := 0) (some 64) (Op.fieldAddr 27 (Operand.tmp 9) 1) 0 (v := ?_) ⟨_, rfl, rfl, rfl, rfl, rfl⟩ (by kernel_rfl) (by kernel_rfl) (by kernel_rfl) (by kernel_rfl) (fun _ _ _ h => h) (fun _ => hS) (fun w' => ?_) ?_
                  rotate_left
                  · unfold bareOp
                    go_simp
                    try with_reducible rfl
                  simp only [Act.put, List.setIfInBounds_toArray, List.set_cons_zero, List.set_cons_succ]
                  refine wpAnyB_take (i := 1) (some 65) (Op.load 25 (Operand.tmp 64)) 25 (v := ?_) ⟨_, rfl, rfl, rfl, rfl, rfl⟩ (by kernel_rfl) (by kernel_rfl) (by kernel_rfl) [8, 9, 10] (by kernel_rfl) (fun _ _ _ h => h) hS (fun w' hSw => ?_) ?_
                  rotate_left
                  · obtain ⟨⟨s0, s1, s2⟩, s3⟩ := hSw
                    unfold bareOp
                    go_simp
                    try with_reducible rfl
                  simp only [Act.put, List.setIfInBounds_toArray, List.set_cons_zero, List.set_cons_succ]
                  refine wpAnyB_take (i := 2) (some 66) (Op.load 24 (Operand.tmp 3)) 24 (v := ?_) ⟨_, rfl, rfl, rfl, rfl, rfl⟩ (by kernel_rfl) (by kernel_rfl) (by kernel_rfl) [6, 7, 8, 9, 10] (by kernel_rfl) (fun _ _ _ h => h) hS (fun w' hSw => ?_) ?_
                  rotate_left
                  · obtain ⟨⟨s0, s1, s2⟩, s3⟩ := hSw
                    unfold bareOp
                    go_simp
                    try with_reducible rfl
                  simp only [Act.put, List.setIfInBounds_toArray, List.set_cons_zero, List.set_cons_succ]
                  refine wpAnyB_takeP (i := 3) (some 67) (Op.move (Operand.tmp 1)) 25 (v := ?_) ⟨_, rfl, rfl, rfl, rfl, rfl⟩ (by kernel_rfl) (by kernel_rfl) (by kernel_rfl) (by kernel_rfl) (fun _ _ _ h => h) (fun _ => hS) (fun w' => ?_) ?_
                  rotate_left
                  · unfold bareOp
                    go_simp
                    try with_reducible rfl
                  simp only [Act.put, List.setIfInBounds_toArray, List.set_cons_zero, List.set_cons_succ]
                  refine wpAnyB_takeP (i := 4) (some 68) (Op.move (Operand.tmp 14)) 3 (v := ?_) ⟨_, rfl, rfl, rfl, rfl, rfl⟩ (by kernel_rfl) (by kernel_rfl) (by kernel_rfl) (by kernel_rfl) (fun _ _ _ h => h) (fun _ => hS) (fun w' => ?_) ?_
                  rotate_left
                  · unfold bareOp
                    go_simp
                    try with_reducible rfl
                  simp only [Act.put, List.setIfInBounds_toArray, List.set_cons_zero, List.set_cons_succ]
                  refine wpAnyB_takeP (i := 5) (some 69) (Op.binOp BinOp.add 3 (Operand.tmp 68) (Operand.const (Value.int IntKind.i64 1)) 3) 3 (v := ?_) ⟨_, rfl, rfl, rfl, rfl, rfl⟩ (by kernel_rfl) (by kernel_rfl) (by kernel_rfl) (by kernel_rfl) (fun _ _ _ h => h) (fun _ => hS) (fun w' => ?_) ?_
                  rotate_left
                  · unfold bareOp
                    go_simp
                    try with_reducible rfl
                  simp only [Act.put, List.setIfInBounds_toArray, List.set_cons_zero, List.set_cons_succ]
                  refine wpAnyB_only (i := 6) (some 70) (Op.call { callee := Callee.value (Operand.func 59), args := #[Operand.tmp 66, Operand.tmp 67, Operand.tmp 69], argTypes := #[24, 25, 3] }) 22 ⟨_, rfl, rfl, rfl, rfl, rfl⟩ (by kernel_rfl) (fun K hK => ?_)
                  unfold bareOp
                  go_wp2_with (go_at_call 59; refine (svalue_any _ HH.out (by omega) (by omega) (HS.out.keep HBW.out) l1 (by omega) HX.out HV2.out).mono ?_; rintro e w8 ⟨rfl, hb8⟩)
                  replace F_g := Lib.hid (F_g.out.keep hb8)
                  replace F_r := Lib.hid (F_r.out.keep hb8)
                  replace F_d := Lib.hid (F_d.out.keep hb8)
                  replace HBW := Lib.hid (HBW.out.trans (hb8.mono HBW.out.size))
                  replace hS := And.intro F_g.out.s F_d.out.c1
                  clear hb8
                  refine hK.out _ _ (fun _ => hS) ?_
                  clear hK K
                  try simp only [Act.put, List.setIfInBounds_toArray, List.set_cons_zero, List.set_cons_succ]
                  refine wpAnyB_only (i := 7) (some 71) (Op.buildSlice 25 1 #[(0, Operand.tmp 70)]) 25 ⟨_, rfl, rfl, rfl, rfl, rfl⟩ (by kernel_rfl) (fun K hK => ?_)
                  unfold bareOp
                  go_wp2_with fail
                  replace F_g := Lib.hid (F_g.out.alloc (.cells #[.int .u64 t] 22))
                  replace F_r := Lib.hid (F_r.out.alloc (.cells #[.int .u64 t] 22))
                  replace F_d := Lib.hid (F_d.out.alloc (.cells #[.int .u64 t] 22))
                  replace HBW := Lib.hid (HBW.out.alloc HBW.out.size (.cells #[.int .u64 t] 22))
                  have HCN := Lib.hid (cell_one w8 (.int .u64 t) 22)
                  replace hS := And.intro F_g.out.s F_d.out.c1
                  refine hK.out _ _ (fun _ => hS) ?_
                  clear hK K
                  try simp only [Act.put, List.setIfInBounds_toArray, List.set_cons_zero, List.set_cons_succ]
                  refine wpAnyB_only (i := 8) (some 72) (Op.call { callee := Callee.builtin Builtin.append, args := #[Operand.tmp 65, Operand.tmp 71], argTypes := #[25, 25] }) 25 ⟨_, rfl, rfl, rfl, rfl, rfl⟩ (by kernel_rfl) (fun K hK => ?_)
                  unfold bareOp
                  refine oper_append (some 72) (Operand.tmp 65) (Operand.tmp 71) 25 (dB + 1) v2 _ t rfl F_d.out.r2 _ 1 rfl HCN.out (by rw [shares_len]; omega) F_d.out.lt ?_
                  intro v' w9 hown hgr hat
                  obtain ⟨g', cap', rfl⟩ := ownsRow_succ hown
                  have F_p := Lib.hid (F_d.out.push2 hown hgr hat)
                  obtain ⟨a0, a1, a2, a3, a4, a5⟩ := F_d.out.grown hgr (fun k hk => (F_d.out.r2.lt k hk).1)
                  replace hS := And.intro (F_g.out.keepN a5 (by omega)).s a1
                  have A5 := Lib.hid a5
                  clear hown hgr hat a5
                  refine hK.out _ _ (fun _ => hS) ?_
                  clear hK K
                  try simp only [Act.put, List.setIfInBounds_toArray, List.set_cons_zero, List.set_cons_succ]
                  refine wpAnyB_takeP (i := 9) (some 73) (Op.fieldAddr 27 (Operand.tmp 9) 1) 0 (v := ?_) ⟨_, rfl, rfl, rfl, rfl, rfl⟩ (by kernel_rfl) (by kernel_rfl) (by kernel_rfl) (by kernel_rfl) (fun _ _ _ h => h) (fun _ => hS) (fun w' => ?_) ?_
                  rotate_left
                  · unfold bareOp
                    go_simp
                    try with_reducible rfl
                  simp only [Act.put, List.setIfInBounds_toArray, List.set_cons_zero, List.set_cons_succ]
                  refine wpAnyB_only (i := 10) none (Op.store 25 (Operand.tmp 73) (Operand.tmp 72)) 0 ⟨_, rfl, rfl, rfl, rfl, rfl⟩ (by kernel_rfl) (fun K hK => ?_)
                  unfold bareOp
                  go_wp2_with fail
                  refine hK.out _ _ (fun h => absurd (h.symm.trans (by kernel_rfl : _ = true)) (by decide)) ?_
                  clear hK K
                  try simp only [Act.put, List.setIfInBounds_toArray, List.set_cons_zero, List.set_cons_succ]
                  refine wpAnyB_done (by kernel_rfl) ?_ _
                  go_wp2_with fail
                  have HPB := Lib.hid F_p.out.2
                  have hsz8 := HPB.out.size
                  go_roundw
                  case rel => exact ⟨j + 1, by omega, by go_num, _, F_g.out.keepN HPB.out (by omega), F_r.out.keepN HPB.out (by omega), (by rw [shares_snoc, HV2.out]; exact F_p.out.1), HBW.out.trans (HPB.out.mono (by omega))⟩
                  case measure => simp [intOf]; omega
                case neg =>
                  have hlt' : i < (j : Int) + 1 := by omega
                  have hjn : i.toNat = j := by omega
                  have HJ := Lib.hid hjn
                  clear hjn
                  obtain ⟨o1, e1, rfl⟩ := F_d.out.r1.sl
                  obtain ⟨o2, e2, rfl⟩ := F_d.out.r2.sl
                  obtain ⟨x0a, x0b, x0c, -⟩ := id F_g.out
                  obtain ⟨y0a, y0b, y0c, y0d, -⟩ := id F_r.out
                  have z0 := F_d.out.c0
                  have z1 := F_d.out.c1
                  go_wp2_with fail
                  exact bodyPost_ret (res_deal rfl (F_r.out.stored _ _) _ rfl rfl rfl rfl) rfl ⟨_, _, rfl, by rw [← HPS.out]; exact ((F_d.out.r1.far (by omega) _).far (by omega) _).mono (by omega), by rw [← HSS.out, HJ.out]; exact ((F_d.out.r2.far (by omega) _).far (by omega) _).mono (by omega), (HBW.out.setCell (by simp <;> omega) _).setCell (by simp <;> omega) _⟩

set_option maxRecDepth 100000 in
set_option maxHeartbeats 8000000 in
theorem rOf_any {P Q G i : Int} {ps ss : List Int} {a : Option Addr} {n c : Nat} {xs : List Int} (w : World) (hH : Has P Q G) (i0' : 0 ≤ i) (i8 : i ≤ 8) (iQ : i < Q) (h : ShI .u64 w a n xs) (l8 : n ≤ 8) (hx : ∀ x, x ∈ xs → 0 ≤ x ∧ x < Q) (hps : pledgesS P G xs = ps) (hss : sharesS Q xs i.toNat = ss) :
    Calls Try.prog 63 #[.agg #[.int .u64 P, .int .u64 Q, .int .u64 G], .slice a n c, .int .i64 i] w (RetOne w ps ss) := by
  obtain ⟨p5, p3, hQ', pq, g2, gP⟩ := id hH
  have q3 : Q < 1073741824 := by omega
  have q1 : 1 < Q := by omega
  have HH := Lib.hid hH
  have HS := Lib.hid h
  have HLN := Lib.hid h.len
  have HX := Lib.hid hx
  have HPS := Lib.hid hps
  have HSS := Lib.hid hss
  clear h hx hps hss hH pq
  have F_g := Lib.hid (show Boxed (((w.alloc (.cells #[.int .u64 P, .int .u64 Q, .int .u64 G] 24)).alloc (.cells #[.slice none 0 0, .slice none 0 0] 27)).alloc (.cells #[.slice none 0 0, .slice none 0 0] 27)) w.heap.size P Q G from ((Boxed.at _ P Q G _ w.heap.size (by simp)).alloc _).alloc _)
  have F_r := Lib.hid (show DealBox (((w.alloc (.cells #[.int .u64 P, .int .u64 Q, .int .u64 G] 24)).alloc (.cells #[.slice none 0 0, .slice none 0 0] 27)).alloc (.cells #[.slice none 0 0, .slice none 0 0] 27)) (w.heap.size + 1) (.slice none 0 0) (.slice none 0 0) from (DealBox.at _ _ _ _ (w.heap.size + 1) (by simp)).alloc _)
  have F_d := Lib.hid (show DealAt (((w.alloc (.cells #[.int .u64 P, .int .u64 Q, .int .u64 G] 24)).alloc (.cells #[.slice none 0 0, .slice none 0 0] 27)).alloc (.cells #[.slice none 0 0, .slice none 0 0] 27)) (w.heap.size + 2) (w.heap.size + 2 + 1) (.slice none 0 0) (.slice none 0 0) [] [] from DealAt.at _ _ (w.heap.size + 2) (by simp))
  have HBW := Lib.hid (show Below w.heap.size w (((w.alloc (.cells #[.int .u64 P, .int .u64 Q, .int .u64 G] 24)).alloc (.cells #[.slice none 0 0, .slice none 0 0] 27)).alloc (.cells #[.slice none 0 0, .slice none 0 0] 27)) from (((Below.refl _ _).alloc (by simp <;> omega) _).alloc (by simp <;> omega) _).alloc (by simp <;> omega) _)
  go_enter Try.func63, Try.ntmps63
  go_wp2_with fail
  obtain ⟨i0, hi, hz0, hz1, hz2⟩ := info_parts (P := Try.prog) (e := 22) (z := .int .u64 0) (size := 1) (bytes := 8) (by kernel_rfl)
  go_loopw [8] (fun c8 wr => ∃ k : Nat, k ≤ n ∧ c8 = .int .i64 k ∧ ∃ v1 : Value, Hid (Boxed wr w.heap.size P Q G) ∧ Hid (DealBox wr (w.heap.size + 1) (.slice none 0 0) (.slice none 0 0)) ∧ Hid (DealAt wr (w.heap.size + 2) (w.heap.size + 2 + 1) v1 (.slice none 0 0) (pledgesS P G (xs.take k)) []) ∧ Hid (Below w.heap.size w wr)) (fun c8 _ => n - (intOf c8).toNat)
  case atStart => exact ⟨0, Nat.zero_le _, rfl, _, F_g.out, F_r.out, F_d.out, HBW.out⟩
  case round =>
    clear F_g F_r F_d HBW
    obtain ⟨k, hk, rfl, v1, F_g, F_r, F_d, HBW⟩ := hrel
    by_cases hlt : k < n
    case pos =>
      obtain ⟨s, f, hsa, hsl, hck, hmem⟩ := HS.out.at k hlt
      have hsw : s < w.heap.size := hsl
      obtain ⟨y, hy⟩ : ∃ y, xs.getD k 0 = y := ⟨_, rfl⟩
      rw [hy] at hck hmem
      have HEC := Lib.hid hck
      have y0 := (HX.out y hmem).1
      have yQ := (HX.out y hmem).2
      have UY := Lib.hid (show U64 y from ⟨y0, by omega⟩)
      have HY := Lib.hid hy
      clear hck hmem hy
      subst hsa
      have hk0 : (0 : Int) ≤ (k : Int) := by omega
      have hk1 : (k : Int) < (n : Int) := by omega
      have g0 : 0 ≤ G := by omega
      obtain ⟨t, ht⟩ : ∃ t, powm G y P = t := ⟨_, rfl⟩
      have HT := Lib.hid ht
      clear ht
      have HLK := Lib.hid (show (pledgesS P G (xs.take k)).length = k by rw [pledges_len, List.length_take, ← HLN.out]; omega)
      go_wp2_with fail
      replace F_g := Lib.hid F_g.out.drew
      replace F_r := Lib.hid F_r.out.drew
      replace F_d := Lib.hid F_d.out.drew
      replace HBW := Lib.hid HBW.out.drew
      have hS := And.intro F_g.out.s (And.intro F_d.out.c0 ((HBW.out.cell (p := ⟨s, f + k, none⟩) hsw).trans HEC.out))
      refine wp_region_stage 13 (fun w' => SBox w' w.heap.size P Q G ∧ w'.cell? ⟨w.heap.size + 2, 0, none⟩ = some v1 ∧ w'.cell? ⟨s, f + k, none⟩ = some (.int .u64 y)) (by kernel_rfl) ?_
      refine wpAnyB_takeP (i := 0) (some 16) (Op.fieldAddr 27 (Operand.tmp 7) 0) 0 (v := ?_) ⟨_, rfl, rfl, rfl, rfl, rfl⟩ (by kernel_rfl) (by kernel_rfl) (by kernel_rfl) (by kernel_rfl) (fun _ _ _ h => h) (fun _ => hS) (fun w' => ?_) ?_
      rotate_left
      · unfold bareOp
        go_simp
        try with_reducible rfl
      simp only [Act.put, List.setIfInBounds_toArray, List.set_cons_zero, List.set_cons_succ]
      refine wpAnyB_take (i := 1) (some 17) (Op.load 25 (Operand.tmp 16)) 25 (v := ?_) ⟨_, rfl, rfl, rfl, rfl, rfl⟩ (by kernel_rfl) (by kernel_rfl) (by kernel_rfl) [11, 12, 13] (by kernel_rfl) (fun _ _ _ h => h) hS (fun w' hSw => ?_) ?_
      rotate_left
      · obtain ⟨⟨s0, s1, s2⟩, s3, s4⟩ := hSw
        unfold bareOp
        go_simp
        try with_reducible rfl
      simp only [Act.put, List.setIfInBounds_toArray, List.set_cons_zero, List.set_cons_succ]
      refine wpAnyB_take (i := 2) (some 18) (Op.load 24 (Operand.tmp 3)) 24 (v := ?_) ⟨_, rfl, rfl, rfl, rfl, rfl⟩ (by kernel_rfl) (by kernel_rfl) (by kernel_rfl) [9, 10, 11, 12, 13] (by kernel_rfl) (fun _ _ _ h => h) hS (fun w' hSw => ?_) ?_
      rotate_left
      · obtain ⟨⟨s0, s1, s2⟩, s3, s4⟩ := hSw
        unfold bareOp
        go_simp
        try with_reducible rfl
      simp only [Act.put, List.setIfInBounds_toArray, List.set_cons_zero, List.set_cons_succ]
      refine wpAnyB_takeP (i := 3) (some 19) (Op.fieldAddr 24 (Operand.tmp 3) 2) 0 (v := ?_) ⟨_, rfl, rfl, rfl, rfl, rfl⟩ (by kernel_rfl) (by kernel_rfl) (by kernel_rfl) (by kernel_rfl) (fun _ _ _ h => h) (fun _ => hS) (fun w' => ?_) ?_
      rotate_left
      · unfold bareOp
        go_simp
        try with_reducible rfl
      simp only [Act.put, List.setIfInBounds_toArray, List.set_cons_zero, List.set_cons_succ]
      refine wpAnyB_take (i := 4) (some 20) (Op.load 22 (Operand.tmp 19)) 22 (v := ?_) ⟨_, rfl, rfl, rfl, rfl, rfl⟩ (by kernel_rfl) (by kernel_rfl) (by kernel_rfl) [9, 10, 11, 12, 13] (by kernel_rfl) (fun _ _ _ h => h) hS (fun w' hSw => ?_) ?_
      rotate_left
      · obtain ⟨⟨s0, s1, s2⟩, s3, s4⟩ := hSw
        unfold bareOp
        go_simp
        try with_reducible rfl
      simp only [Act.put, List.setIfInBounds_toArray, List.set_cons_zero, List.set_cons_succ]
      refine wpAnyB_takeP (i := 5) (some 21) (Op.move (Operand.tmp 1)) 25 (v := ?_) ⟨_, rfl, rfl, rfl, rfl, rfl⟩ (by kernel_rfl) (by kernel_rfl) (by kernel_rfl) (by kernel_rfl) (fun _ _ _ h => h) (fun _ => hS) (fun w' => ?_) ?_
      rotate_left
      · unfold bareOp
        go_simp
        try with_reducible rfl
      simp only [Act.put, List.setIfInBounds_toArray, List.set_cons_zero, List.set_cons_succ]
      refine wpAnyB_takeP (i := 6) (some 22) (Op.move (Operand.tmp 8)) 3 (v := ?_) ⟨_, rfl, rfl, rfl, rfl, rfl⟩ (by kernel_rfl) (by kernel_rfl) (by kernel_rfl) (by kernel_rfl) (fun _ _ _ h => h) (fun _ => hS) (fun w' => ?_) ?_
      rotate_left
      · unfold bareOp
        go_simp
        try with_reducible rfl
      simp only [Act.put, List.setIfInBounds_toArray, List.set_cons_zero, List.set_cons_succ]
      refine wpAnyB_takeP (i := 7) (some 23) (Op.indexAddr 25 (Operand.tmp 21) (Operand.tmp 22)) 0 (v := ?_) ⟨_, rfl, rfl, rfl, rfl, rfl⟩ (by kernel_rfl) (by kernel_rfl) (by kernel_rfl) (by kernel_rfl) (fun _ _ _ h => h) (fun _ => hS) (fun w' => ?_) ?_
      rotate_left
      · unfold bareOp
        go_simp
        try with_reducible rfl
      simp only [Act.put, List.setIfInBounds_toArray, List.set_cons_zero, List.set_cons_succ]
      refine wpAnyB_take (i := 8) (some 24) (Op.load 22 (Operand.tmp 23)) 22 (v := ?_) ⟨_, rfl, rfl, rfl, rfl, rfl⟩ (by kernel_rfl) (by kernel_rfl) (by kernel_rfl) [9, 10, 11, 12, 13] (by kernel_rfl) (fun _ _ _ h => h) hS (fun w' hSw => ?_) ?_
      rotate_left
      · obtain ⟨⟨s0, s1, s2⟩, s3, s4⟩ := hSw
        unfold bareOp
        go_simp
        try with_reducible rfl
      simp only [Act.put, List.setIfInBounds_toArray, List.set_cons_zero, List.set_cons_succ]
      refine wpAnyB_only (i := 9) (some 25) (Op.call { callee := Callee.value (Operand.func 66), args := #[Operand.tmp 18, Operand.tmp 20, Operand.tmp 24], argTypes := #[24, 22, 22] }) 22 ⟨_, rfl, rfl, rfl, rfl, rfl⟩ (by kernel_rfl) (fun K hK => ?_)
      unfold bareOp
      go_wp2_with (go_at_call 66; refine (r31Power_any _ (by omega) (by omega) g0 (by omega) UY.out HT.out).mono ?_; rintro e w8 ⟨rfl, hb8⟩)
      replace F_g := Lib.hid (F_g.out.keep hb8)
      replace F_r := Lib.hid (F_r.out.keep hb8)
      replace F_d := Lib.hid (F_d.out.keep hb8)
      replace HBW := Lib.hid (HBW.out.trans (hb8.mono HBW.out.size))
      replace hS := And.intro F_g.out.s (And.intro F_d.out.c0 ((HBW.out.cell (p := ⟨s, f + k, none⟩) hsw).trans HEC.out))
      clear hb8
      refine hK.out _ _ (fun _ => hS) ?_
      clear hK K
      try simp only [Act.put, List.setIfInBounds_toArray, List.set_cons_zero, List.set_cons_succ]
      refine wpAnyB_only (i := 10) (some 26) (Op.buildSlice 25 1 #[(0, Operand.tmp 25)]) 25 ⟨_, rfl, rfl, rfl, rfl, rfl⟩ (by kernel_rfl) (fun K hK => ?_)
      unfold bareOp
      go_wp2_with fail
      replace F_g := Lib.hid (F_g.out.alloc (.cells #[.int .u64 t] 22))
      replace F_r := Lib.hid (F_r.out.alloc (.cells #[.int .u64 t] 22))
      replace F_d := Lib.hid (F_d.out.alloc (.cells #[.int .u64 t] 22))
      replace HBW := Lib.hid (HBW.out.alloc HBW.out.size (.cells #[.int .u64 t] 22))
      have HCN := Lib.hid (cell_one w8 (.int .u64 t) 22)
      replace hS := And.intro F_g.out.s (And.intro F_d.out.c0 ((HBW.out.cell (p := ⟨s, f + k, none⟩) hsw).trans HEC.out))
      refine hK.out _ _ (fun _ => hS) ?_
      clear hK K
      try simp only [Act.put, List.setIfInBounds_toArray, List.set_cons_zero, List.set_cons_succ]
      refine wpAnyB_only (i := 11) (some 27) (Op.call { callee := Callee.builtin Builtin.append, args := #[Operand.tmp 17, Operand.tmp 26], argTypes := #[25, 25] }) 25 ⟨_, rfl, rfl, rfl, rfl, rfl⟩ (by kernel_rfl) (fun K hK => ?_)
      unfold bareOp
      refine oper_append (some 27) (Operand.tmp 17) (Operand.tmp 26) 25 (w.heap.size + 2 + 1) v1 _ t rfl F_d.out.r1 _ 1 rfl HCN.out (by rw [HLK.out]; omega) F_d.out.lt ?_
      intro v' w9 hown hgr hat
      obtain ⟨g', cap', rfl⟩ := ownsRow_succ hown
      have F_p := Lib.hid (F_d.out.push1 hown hgr hat)
      obtain ⟨a0, a1, a2, a3, a4, a5⟩ := F_d.out.grown hgr (fun k hk => (F_d.out.r1.lt k hk).1)
      replace hS := And.intro (F_g.out.keepN a5 (by omega)).s (And.intro a0 (((HBW.out.trans (a5.mono (by omega))).cell (p := ⟨s, f + k, none⟩) hsw).trans HEC.out))
      clear hown hgr hat a5
      refine hK.out _ _ (fun _ => hS) ?_
      clear hK K
      try simp only [Act.put, List.setIfInBounds_toArray, List.set_cons_zero, List.set_cons_succ]
      refine wpAnyB_takeP (i := 12) (some 28) (Op.fieldAddr 27 (Operand.tmp 7) 0) 0 (v := ?_) ⟨_, rfl, rfl, rfl, rfl, rfl⟩ (by kernel_rfl) (by kernel_rfl) (by kernel_rfl) (by kernel_rfl) (fun _ _ _ h => h) (fun _ => hS) (fun w' => ?_) ?_
      rotate_left
      · unfold bareOp
        go_simp
        try with_reducible rfl
      simp only [Act.put, List.setIfInBounds_toArray, List.set_cons_zero, List.set_cons_succ]
      refine wpAnyB_only (i := 13) none (Op.store 25 (Operand.tmp 28) (Operand.tmp 27)) 0 ⟨_, rfl, rfl, rfl, rfl, rfl⟩ (by kernel_rfl) (fun K hK => ?_)
      unfold bareOp
      go_wp2_with fail
      refine hK.out _ _ (fun h => absurd (h.symm.trans (by kernel_rfl : _ = true)) (by decide)) ?_
      clear hK K
      try simp only [Act.put, List.setIfInBounds_toArray, List.set_cons_zero, List.set_cons_succ]
      refine wpAnyB_done (by kernel_rfl) ?_ _
      go_wp2_with fail
      have HPB := Lib.hid F_p.out.2
      have hsz8 := HPB.out.size
      go_roundw
      case rel => exact ⟨k + 1, by omega, by go_num, _, F_g.out.keepN HPB.out (by omega), F_r.out.keepN HPB.out (by omega), (by rw [pledges_snoc P G xs k (by rw [← HLN.out]; exact hlt), HY.out, HT.out]; exact F_p.out.1), HBW.out.trans (HPB.out.mono (by omega))⟩
      case measure => simp [intOf]; omega
    case neg =>
      have hkn : k = n := by omega
      rw [hkn, HLN.out, List.take_length] at F_d
      clear hkn
      have hz9 := HBW.out.size
      obtain ⟨x0a, x0b, x0c, -⟩ := id F_g.out
      go_wp2_with fail
      clear x0a x0b x0c
      go_loopw [9] (fun c9 wr => ∃ j : Nat, (j : Int) ≤ i ∧ c9 = .int .i64 ((j : Int) + 1) ∧ ∃ v2 : Value, Hid (Boxed wr w.heap.size P Q G) ∧ Hid (DealBox wr (w.heap.size + 1) (.slice none 0 0) (.slice none 0 0)) ∧ Hid (DealAt wr (w.heap.size + 2) (w.heap.size + 2 + 1) v1 v2 (pledgesS P G xs) (sharesS Q xs j)) ∧ Hid (Below w.heap.size w wr)) (fun c9 _ => (i + 1 - intOf c9).toNat)
      case atStart => exact ⟨0, i0', rfl, _, F_g.out, F_r.out, F_d.out, HBW.out⟩
      case round =>
        clear F_g F_r F_d HBW hz9
        obtain ⟨j, hji, rfl, v2, F_g, F_r, F_d, HBW⟩ := hrel
        have hj0 : (0 : Int) ≤ (j : Int) := by omega
        have hwj : IntKind.i64.wrap ((j : Int) + 1) = (j : Int) + 1 := IntWalk.i64_in _ (by omega)
        by_cases hlt : (j : Int) + 1 ≤ i
        case pos =>
          obtain ⟨t, ht⟩ : ∃ t, valS Q ((j : Int) + 1) xs = t := ⟨_, rfl⟩
          have HV2 := Lib.hid ht
          clear ht
          go_wp2_with fail
          replace F_g := Lib.hid F_g.out.drew
          replace F_r := Lib.hid F_r.out.drew
          replace F_d := Lib.hid F_d.out.drew
          replace HBW := Lib.hid HBW.out.drew
          have hS := And.intro F_g.out.s F_d.out.c1
          refine wp_region_stage 9 (fun w' => SBox w' w.heap.size P Q G ∧ w'.cell? ⟨(w.heap.size + 2), 1, none⟩ = some v2) (by kernel_rfl) ?_
          refine wpAnyB_takeP (i := 0) (some 34) (Op.fieldAddr 27 (Operand.tmp 7) 1) 0 (v := ?_) ⟨_, rfl, rfl, rfl, rfl, rfl⟩ (by kernel_rfl) (by kernel_rfl) (by kernel_rfl) (by kernel_rfl) (fun _ _ _ h => h) (fun _ => hS) (fun w' => ?_) ?_
          rotate_left
          · unfold bareOp
            go_simp
            try with_reducible rfl
          simp only [Act.put, List.setIfInBounds_toArray, List.set_cons_zero, List.set_cons_succ]
          refine wpAnyB_take (i := 1) (some 35) (Op.load 25 (Operand.tmp 34)) 25 (v := ?_) ⟨_, rfl, rfl, rfl, rfl, rfl⟩ (by kernel_rfl) (by kernel_rfl) (by kernel_rfl) [7, 8, 9] (by kernel_rfl) (fun _ _ _ h => h) hS (fun w' hSw => ?_) ?_
          rotate_left
          · obtain ⟨⟨s0, s1, s2⟩, s3⟩ := hSw
            unfold bareOp
            go_simp
            try with_reducible rfl
          simp only [Act.put, List.setIfInBounds_toArray, List.set_cons_zero, List.set_cons_succ]
          refine wpAnyB_take (i := 2) (some 36) (Op.load 24 (Operand.tmp 3)) 24 (v := ?_) ⟨_, rfl, rfl, rfl, rfl, rfl⟩ (by kernel_rfl) (by kernel_rfl) (by kernel_rfl) [5, 6, 7, 8, 9] (by kernel_rfl) (fun _ _ _ h => h) hS (fun w' hSw => ?_) ?_
          rotate_left
          · obtain ⟨⟨s0, s1, s2⟩, s3⟩ := hSw
            unfold bareOp
            go_simp
            try with_reducible rfl
          simp only [Act.put, List.setIfInBounds_toArray, List.set_cons_zero, List.set_cons_succ]
          refine wpAnyB_takeP (i := 3) (some 37) (Op.move (Operand.tmp 1)) 25 (v := ?_) ⟨_, rfl, rfl, rfl, rfl, rfl⟩ (by kernel_rfl) (by kernel_rfl) (by kernel_rfl) (by kernel_rfl) (fun _ _ _ h => h) (fun _ => hS) (fun w' => ?_) ?_
          rotate_left
          · unfold bareOp
            go_simp
            try with_reducible rfl
          simp only [Act.put, List.setIfInBounds_toArray, List.set_cons_zero, List.set_cons_succ]
          refine wpAnyB_takeP (i := 4) (some 38) (Op.move (Operand.tmp 9)) 3 (v := ?_) ⟨_, rfl, rfl, rfl, rfl, rfl⟩ (by kernel_rfl) (by kernel_rfl) (by kernel_rfl) (by kernel_rfl) (fun _ _ _ h => h) (fun _ => hS) (fun w' => ?_) ?_
          rotate_left
          · unfold bareOp
            go_simp
            try with_reducible rfl
          simp only [Act.put, List.setIfInBounds_toArray, List.set_cons_zero, List.set_cons_succ]
          refine wpAnyB_only (i := 5) (some 39) (Op.call { callee := Callee.value (Operand.func 62), args := #[Operand.tmp 36, Operand.tmp 37, Operand.tmp 38], argTypes := #[24, 25, 3] }) 22 ⟨_, rfl, rfl, rfl, rfl, rfl⟩ (by kernel_rfl) (fun K hK => ?_)
          unfold bareOp
          go_wp2_with (go_at_call 62; refine (rat_val _ HH.out (by omega) (by omega) (HS.out.keep HBW.out) (by omega) HX.out HV2.out).mono ?_; rintro e w8 ⟨rfl, hb8⟩)
          replace F_g := Lib.hid (F_g.out.keep hb8)
          replace F_r := Lib.hid (F_r.out.keep hb8)
          replace F_d := Lib.hid (F_d.out.keep hb8)
          replace HBW := Lib.hid (HBW.out.trans (hb8.mono HBW.out.size))
          replace hS := And.intro F_g.out.s F_d.out.c1
          clear hb8
          refine hK.out _ _ (fun _ => hS) ?_
          clear hK K
          try simp only [Act.put, List.setIfInBounds_toArray, List.set_cons_zero, List.set_cons_succ]
          refine wpAnyB_only (i := 6) (some 40) (Op.buildSlice 25 1 #[(0, Operand.tmp 39)]) 25 ⟨_, rfl, rfl, rfl, rfl, rfl⟩ (by kernel_rfl) (fun K hK => ?_)
          unfold bareOp
          go_wp2_with fail
          replace F_g := Lib.hid (F_g.out.alloc (.cells #[.int .u64 t] 22))
          replace F_r := Lib.hid (F_r.out.alloc (.cells #[.int .u64 t] 22))
          replace F_d := Lib.hid (F_d.out.alloc (.cells #[.int .u64 t] 22))
          replace HBW := Lib.hid (HBW.out.alloc HBW.out.size (.cells #[.int .u64 t] 22))
          have HCN := Lib.hid (cell_one w8 (.int .u64 t) 22)
          replace hS := And.intro F_g.out.s F_d.out.c1
          refine hK.out _ _ (fun _ => hS) ?_
          clear hK K
          try simp only [Act.put, List.setIfInBounds_toArray, List.set_cons_zero, List.set_cons_succ]
          refine wpAnyB_only (i := 7) (some 41) (Op.call { callee := Callee.builtin Builtin.append, args := #[Operand.tmp 35, Operand.tmp 40], argTypes := #[25, 25] }) 25 ⟨_, rfl, rfl, rfl, rfl, rfl⟩ (by kernel_rfl) (fun K hK => ?_)
          unfold bareOp
          refine oper_append (some 41) (Operand.tmp 35) (Operand.tmp 40) 25 (w.heap.size + 2 + 1) v2 _ t rfl F_d.out.r2 _ 1 rfl HCN.out (by rw [shares_len]; omega) F_d.out.lt ?_
          intro v' w9 hown hgr hat
          obtain ⟨g', cap', rfl⟩ := ownsRow_succ hown
          have F_p := Lib.hid (F_d.out.push2 hown hgr hat)
          obtain ⟨a0, a1, a2, a3, a4, a5⟩ := F_d.out.grown hgr (fun k hk => (F_d.out.r2.lt k hk).1)
          replace hS := And.intro (F_g.out.keepN a5 (by omega)).s a1
          have A5 := Lib.hid a5
          clear hown hgr hat a5
          refine hK.out _ _ (fun _ => hS) ?_
          clear hK K
          try simp only [Act.put, List.setIfInBounds_toArray, List.set_cons_zero, List.set_cons_succ]
          refine wpAnyB_takeP (i := 8) (some 42) (Op.fieldAddr 27 (Operand.tmp 7) 1) 0 (v := ?_) ⟨_, rfl, rfl, rfl, rfl, rfl⟩ (by kernel_rfl) (by kernel_rfl) (by kernel_rfl) (by kernel_rfl) (fun _ _ _ h => h) (fun _ => hS) (fun w' => ?_) ?_
          rotate_left
          · unfold bareOp
            go_simp
            try with_reducible rfl
          simp only [Act.put, List.setIfInBounds_toArray, List.set_cons_zero, List.set_cons_succ]
          refine wpAnyB_only (i := 9) none (Op.store 25 (Operand.tmp 42) (Operand.tmp 41)) 0 ⟨_, rfl, rfl, rfl, rfl, rfl⟩ (by kernel_rfl) (fun K hK => ?_)
          unfold bareOp
          go_wp2_with fail
          refine hK.out _ _ (fun h => absurd (h.symm.trans (by kernel_rfl : _ = true)) (by decide)) ?_
          clear hK K
          try simp only [Act.put, List.setIfInBounds_toArray, List.set_cons_zero, List.set_cons_succ]
          refine wpAnyB_done (by kernel_rfl) ?_ _
          go_wp2_with fail
          have HPB := Lib.hid F_p.out.2
          have hsz8 := HPB.out.size
          go_roundw
          case rel => exact ⟨j + 1, by omega, by go_num, _, F_g.out.keepN HPB.out (by omega), F_r.out.keepN HPB.out (by omega), (by rw [shares_snoc, HV2.out]; exact F_p.out.1), HBW.out.trans (HPB.out.mono (by omega))⟩
          case measure => simp [intOf]; omega
        case neg =>
          have hlt' : i < (j : Int) + 1 := by omega
          have hjn : i.toNat = j := by omega
          have HJ := Lib.hid hjn
          clear hjn
          obtain ⟨o1, e1, rfl⟩ := F_d.out.r1.sl
          obtain ⟨o2, e2, rfl⟩ := F_d.out.r2.sl
          obtain ⟨x0a, x0b, x0c, -⟩ := id F_g.out
          obtain ⟨y0a, y0b, y0c, y0d, -⟩ := id F_r.out
          have z0 := F_d.out.c0
          have z1 := F_d.out.c1
          go_wp2_with fail
          exact bodyPost_ret (res_deal1 rfl (F_r.out.stored _ _) _ rfl) rfl ⟨_, _, rfl, by rw [← HPS.out]; exact ((F_d.out.r1.far (by omega) _).far (by omega) _).mono (by omega), by rw [← HSS.out, HJ.out]; exact ((F_d.out.r2.far (by omega) _).far (by omega) _).mono (by omega), (HBW.out.setCell (by simp <;> omega) _).setCell (by simp <;> omega) _⟩

set_option maxRecDepth 100000 in
set_option maxHeartbeats 8000000 in
theorem rSplit_any {P Q G i er : Int} {ps ss : List Int} {a : Option Addr} {n c : Nat} {xs : List Int} (w : World) (hP : 0 ≤ P) (hQ : 0 ≤ Q) (hG : 0 ≤ G) (il : -9223372036854775808 ≤ i) (iu : i ≤ 9223372036854775807) (h : ShI .u64 w a n xs) (hn : n ≤ 1000000) (hx : ∀ x, x ∈ xs → U64 x) (hr : splitS P Q G i xs = (er, ps, ss)) :
    Calls Try.prog 22 #[.agg #[.int .u64 P, .int .u64 Q, .int .u64 G], .slice a n c, .int .i64 i] w (RetDeal w er ps ss) := by
  have HS := Lib.hid h
  have HLN := Lib.hid h.len
  clear h
  by_cases hH : Has P Q G
  case neg =>
    obtain ⟨rfl, hps0⟩ := Prod.mk.inj (show (300, [], []) = (er, ps, ss) by rw [← hr]; simp [splitS, hH])
    obtain ⟨rfl, rfl⟩ := Prod.mk.inj hps0
    have HA := Lib.hid (askS_no (es := []) (ns := []) hH)
    have HH := Lib.hid hH
    clear hr hH hps0
    have F_g := Lib.hid (show Boxed ((w.alloc (.cells #[.int .u64 P, .int .u64 Q, .int .u64 G] 24)).alloc (.cells #[.slice none 0 0, .slice none 0 0] 27)) w.heap.size P Q G from (Boxed.at _ P Q G _ w.heap.size (by simp)).alloc _)
    have F_r := Lib.hid (show DealBox ((w.alloc (.cells #[.int .u64 P, .int .u64 Q, .int .u64 G] 24)).alloc (.cells #[.slice none 0 0, .slice none 0 0] 27)) (w.heap.size + 1) (.slice none 0 0) (.slice none 0 0) from DealBox.at _ _ _ _ (w.heap.size + 1) (by simp))
    have HBW := Lib.hid (show Below w.heap.size w ((w.alloc (.cells #[.int .u64 P, .int .u64 Q, .int .u64 G] 24)).alloc (.cells #[.slice none 0 0, .slice none 0 0] 27)) from ((Below.refl _ _).alloc (by simp <;> omega) _).alloc (by simp <;> omega) _)
    go_enter Try.func22, Try.ntmps22
    obtain ⟨x0a, x0b, x0c, -⟩ := id F_g.out
    obtain ⟨y0a, y0b, y0c, y0d, -⟩ := id F_r.out
    go_wp2_with fail
    clear x0a x0b x0c y0a y0b y0c y0d
    refine (rAsked_any _ hP hQ hG (ShL.nil _) (ShL.nil _) (by simp) (by simp) HA.out).mono ?_
    rintro e w1 ⟨rfl, hb1⟩
    replace F_g := Lib.hid (F_g.out.keep hb1)
    replace F_r := Lib.hid (F_r.out.keep hb1)
    replace HBW := Lib.hid (HBW.out.trans (hb1.mono HBW.out.size))
    clear hb1
    obtain ⟨x0a, x0b, x0c, -⟩ := id F_g.out
    obtain ⟨y0a, y0b, y0c, y0d, -⟩ := id F_r.out
    go_wp2_with fail
    exact bodyPost_ret (res_deal rfl (F_r.out.stored (.slice none 0 0) (.slice none 0 0)) _ rfl rfl rfl rfl) rfl ⟨_, _, rfl, OwnU.nil _ _, OwnU.nil _ _, (HBW.out.setCell (by simp <;> omega) _).setCell (by simp <;> omega) _⟩
  case pos =>
    have HA := Lib.hid (askS_ok (es := []) (ns := []) hH (by simp) (by simp))
    obtain ⟨p5, p3, hQ', pq, g2, gP⟩ := id hH
    have q3 : Q < 1073741824 := by omega
    have q1 : 1 < Q := by omega
    have HH := Lib.hid hH
    clear pq
    cases hb : belowS Q xs
    case false =>
      obtain ⟨rfl, hps0⟩ := Prod.mk.inj (show (2, [], []) = (er, ps, ss) by rw [← hr]; simp [splitS, hH, hb])
      obtain ⟨rfl, rfl⟩ := Prod.mk.inj hps0
      have HB := Lib.hid hb
      clear hr hb hH hps0
      have F_g := Lib.hid (show Boxed ((w.alloc (.cells #[.int .u64 P, .int .u64 Q, .int .u64 G] 24)).alloc (.cells #[.slice none 0 0, .slice none 0 0] 27)) w.heap.size P Q G from (Boxed.at _ P Q G _ w.heap.size (by simp)).alloc _)
      have F_r := Lib.hid (show DealBox ((w.alloc (.cells #[.int .u64 P, .int .u64 Q, .int .u64 G] 24)).alloc (.cells #[.slice none 0 0, .slice none 0 0] 27)) (w.heap.size + 1) (.slice none 0 0) (.slice none 0 0) from DealBox.at _ _ _ _ (w.heap.size + 1) (by simp))
      have HBW := Lib.hid (show Below w.heap.size w ((w.alloc (.cells #[.int .u64 P, .int .u64 Q, .int .u64 G] 24)).alloc (.cells #[.slice none 0 0, .slice none 0 0] 27)) from ((Below.refl _ _).alloc (by simp <;> omega) _).alloc (by simp <;> omega) _)
      go_enter Try.func22, Try.ntmps22
      obtain ⟨x0a, x0b, x0c, -⟩ := id F_g.out
      obtain ⟨y0a, y0b, y0c, y0d, -⟩ := id F_r.out
      go_wp2_with fail
      clear x0a x0b x0c y0a y0b y0c y0d
      refine (rAsked_any _ hP hQ hG (ShL.nil _) (ShL.nil _) (by simp) (by simp) HA.out).mono ?_
      rintro e w1 ⟨rfl, hb1⟩
      replace F_g := Lib.hid (F_g.out.keep hb1)
      replace F_r := Lib.hid (F_r.out.keep hb1)
      replace HBW := Lib.hid (HBW.out.trans (hb1.mono HBW.out.size))
      clear hb1
      obtain ⟨x0a, x0b, x0c, -⟩ := id F_g.out
      obtain ⟨y0a, y0b, y0c, y0d, -⟩ := id F_r.out
      go_wp2_with fail
      clear x0a x0b x0c y0a y0b y0c y0d
      refine (rbelow_any _ (HS.out.keep HBW.out) hn HB.out).mono ?_
      rintro e w2 ⟨rfl, rfl⟩
      obtain ⟨x0a, x0b, x0c, -⟩ := id F_g.out
      obtain ⟨y0a, y0b, y0c, y0d, -⟩ := id F_r.out
      go_wp2_with fail
      exact bodyPost_ret (res_deal rfl (F_r.out.stored (.slice none 0 0) (.slice none 0 0)) _ rfl rfl rfl rfl) rfl ⟨_, _, rfl, OwnU.nil _ _, OwnU.nil _ _, (HBW.out.setCell (by simp <;> omega) _).setCell (by simp <;> omega) _⟩
    case true =>
      by_cases hln : (xs.length : Int) ≤ i
      case neg =>
        obtain ⟨rfl, hps0⟩ := Prod.mk.inj (show (2, [], []) = (er, ps, ss) by rw [← hr]; simp [splitS, hH, hb, hln])
        obtain ⟨rfl, rfl⟩ := Prod.mk.inj hps0
        have HB := Lib.hid hb
        have dl : decide (i < (n : Int)) = true := by rw [HLN.out]; simp; omega
        clear hr hb hH hln hps0
        have F_g := Lib.hid (show Boxed ((w.alloc (.cells #[.int .u64 P, .int .u64 Q, .int .u64 G] 24)).alloc (.cells #[.slice none 0 0, .slice none 0 0] 27)) w.heap.size P Q G from (Boxed.at _ P Q G _ w.heap.size (by simp)).alloc _)
        have F_r := Lib.hid (show DealBox ((w.alloc (.cells #[.int .u64 P, .int .u64 Q, .int .u64 G] 24)).alloc (.cells #[.slice none 0 0, .slice none 0 0] 27)) (w.heap.size + 1) (.slice none 0 0) (.slice none 0 0) from DealBox.at _ _ _ _ (w.heap.size + 1) (by simp))
        have HBW := Lib.hid (show Below w.heap.size w ((w.alloc (.cells #[.int .u64 P, .int .u64 Q, .int .u64 G] 24)).alloc (.cells #[.slice none 0 0, .slice none 0 0] 27)) from ((Below.refl _ _).alloc (by simp <;> omega) _).alloc (by simp <;> omega) _)
        go_enter Try.func22, Try.ntmps22
        obtain ⟨x0a, x0b, x0c, -⟩ := id F_g.out
        obtain ⟨y0a, y0b, y0c, y0d, -⟩ := id F_r.out
        go_wp2_with fail
        clear x0a x0b x0c y0a y0b y0c y0d
        refine (rAsked_any _ hP hQ hG (ShL.nil _) (ShL.nil _) (by simp) (by simp) HA.out).mono ?_
        rintro e w1 ⟨rfl, hb1⟩
        replace F_g := Lib.hid (F_g.out.keep hb1)
        replace F_r := Lib.hid (F_r.out.keep hb1)
        replace HBW := Lib.hid (HBW.out.trans (hb1.mono HBW.out.size))
        clear hb1
        obtain ⟨x0a, x0b, x0c, -⟩ := id F_g.out
        obtain ⟨y0a, y0b, y0c, y0d, -⟩ := id F_r.out
        go_wp2_with fail
        clear x0a x0b x0c y0a y0b y0c y0d
        refine (rbelow_any _ (HS.out.keep HBW.out) hn HB.out).mono ?_
        rintro e w2 ⟨rfl, rfl⟩
        obtain ⟨x0a, x0b, x0c, -⟩ := id F_g.out
        obtain ⟨y0a, y0b, y0c, y0d, -⟩ := id F_r.out
        go_wp2_with fail
        exact bodyPost_ret (res_deal rfl (F_r.out.stored (.slice none 0 0) (.slice none 0 0)) _ rfl rfl rfl rfl) rfl ⟨_, _, rfl, OwnU.nil _ _, OwnU.nil _ _, (HBW.out.setCell (by simp <;> omega) _).setCell (by simp <;> omega) _⟩
      case pos =>
        have dl : decide (i < (n : Int)) = false := by rw [HLN.out]; simp; omega
        cases hnu : numS Q i
        case false =>
          obtain ⟨rfl, hps0⟩ := Prod.mk.inj (show (2, [], []) = (er, ps, ss) by rw [← hr]; simp [splitS, hH, hb, hln, hnu])
          obtain ⟨rfl, rfl⟩ := Prod.mk.inj hps0
          have HB := Lib.hid hb
          have HN := Lib.hid hnu
          clear hr hb hnu hH hln hps0
          have F_g := Lib.hid (show Boxed ((w.alloc (.cells #[.int .u64 P, .int .u64 Q, .int .u64 G] 24)).alloc (.cells #[.slice none 0 0, .slice none 0 0] 27)) w.heap.size P Q G from (Boxed.at _ P Q G _ w.heap.size (by simp)).alloc _)
          have F_r := Lib.hid (show DealBox ((w.alloc (.cells #[.int .u64 P, .int .u64 Q, .int .u64 G] 24)).alloc (.cells #[.slice none 0 0, .slice none 0 0] 27)) (w.heap.size + 1) (.slice none 0 0) (.slice none 0 0) from DealBox.at _ _ _ _ (w.heap.size + 1) (by simp))
          have HBW := Lib.hid (show Below w.heap.size w ((w.alloc (.cells #[.int .u64 P, .int .u64 Q, .int .u64 G] 24)).alloc (.cells #[.slice none 0 0, .slice none 0 0] 27)) from ((Below.refl _ _).alloc (by simp <;> omega) _).alloc (by simp <;> omega) _)
          go_enter Try.func22, Try.ntmps22
          obtain ⟨x0a, x0b, x0c, -⟩ := id F_g.out
          obtain ⟨y0a, y0b, y0c, y0d, -⟩ := id F_r.out
          go_wp2_with fail
          clear x0a x0b x0c y0a y0b y0c y0d
          refine (rAsked_any _ hP hQ hG (ShL.nil _) (ShL.nil _) (by simp) (by simp) HA.out).mono ?_
          rintro e w1 ⟨rfl, hb1⟩
          replace F_g := Lib.hid (F_g.out.keep hb1)
          replace F_r := Lib.hid (F_r.out.keep hb1)
          replace HBW := Lib.hid (HBW.out.trans (hb1.mono HBW.out.size))
          clear hb1
          obtain ⟨x0a, x0b, x0c, -⟩ := id F_g.out
          obtain ⟨y0a, y0b, y0c, y0d, -⟩ := id F_r.out
          go_wp2_with fail
          clear x0a x0b x0c y0a y0b y0c y0d
          refine (rbelow_any _ (HS.out.keep HBW.out) hn HB.out).mono ?_
          rintro e w2 ⟨rfl, rfl⟩
          obtain ⟨x0a, x0b, x0c, -⟩ := id F_g.out
          obtain ⟨y0a, y0b, y0c, y0d, -⟩ := id F_r.out
          go_wp2_with fail
          clear x0a x0b x0c y0a y0b y0c y0d
          refine (rnumbered_any _ il iu HN.out).mono ?_
          rintro e w3 ⟨rfl, hb3⟩
          replace F_g := Lib.hid (F_g.out.keep hb3)
          replace F_r := Lib.hid (F_r.out.keep hb3)
          replace HBW := Lib.hid (HBW.out.trans (hb3.mono HBW.out.size))
          clear hb3
          obtain ⟨x0a, x0b, x0c, -⟩ := id F_g.out
          obtain ⟨y0a, y0b, y0c, y0d, -⟩ := id F_r.out
          go_wp2_with fail
          exact bodyPost_ret (res_deal rfl (F_r.out.stored (.slice none 0 0) (.slice none 0 0)) _ rfl rfl rfl rfl) rfl ⟨_, _, rfl, OwnU.nil _ _, OwnU.nil _ _, (HBW.out.setCell (by simp <;> omega) _).setCell (by simp <;> omega) _⟩
        case true =>
          obtain ⟨rfl, hps0⟩ := Prod.mk.inj (show (0, pledgesS P G xs, sharesS Q xs i.toNat) = (er, ps, ss) by rw [← hr]; simp [splitS, hH, hb, hln, hnu])
          obtain ⟨hps, hss⟩ := Prod.mk.inj hps0
          have HPS := Lib.hid hps
          have HSS := Lib.hid hss
          have HX := Lib.hid (belowS_bd hb hx)
          obtain ⟨i0', i8, iQ⟩ := numS_true hnu
          obtain ⟨l1, l8, -⟩ := belowS_true hb
          have hni : (n : Int) ≤ i := by rw [HLN.out]; exact hln
          rw [← HLN.out] at l1 l8
          have HB := Lib.hid hb
          have HN := Lib.hid hnu
          clear hr hb hnu hH hx hps hss hps0 hln
          have F_g := Lib.hid (show Boxed ((w.alloc (.cells #[.int .u64 P, .int .u64 Q, .int .u64 G] 24)).alloc (.cells #[.slice none 0 0, .slice none 0 0] 27)) w.heap.size P Q G from (Boxed.at _ P Q G _ w.heap.size (by simp)).alloc _)
          have F_r := Lib.hid (show DealBox ((w.alloc (.cells #[.int .u64 P, .int .u64 Q, .int .u64 G] 24)).alloc (.cells #[.slice none 0 0, .slice none 0 0] 27)) (w.heap.size + 1) (.slice none 0 0) (.slice none 0 0) from DealBox.at _ _ _ _ (w.heap.size + 1) (by simp))
          have HBW := Lib.hid (show Below w.heap.size w ((w.alloc (.cells #[.int .u64 P, .int .u64 Q, .int .u64 G] 24)).alloc (.cells #[.slice none 0 0, .slice none 0 0] 27)) from ((Below.refl _ _).alloc (by simp <;> omega) _).alloc (by simp <;> omega) _)
          go_enter Try.func22, Try.ntmps22
          obtain ⟨x0a, x0b, x0c, -⟩ := id F_g.out
          obtain ⟨y0a, y0b, y0c, y0d, -⟩ := id F_r.out
          go_wp2_with fail
          clear x0a x0b x0c y0a y0b y0c y0d
          refine (rAsked_any _ hP hQ hG (ShL.nil _) (ShL.nil _) (by simp) (by simp) HA.out).mono ?_
          rintro e w1 ⟨rfl, hb1⟩
          replace F_g := Lib.hid (F_g.out.keep hb1)
          replace F_r := Lib.hid (F_r.out.keep hb1)
          replace HBW := Lib.hid (HBW.out.trans (hb1.mono HBW.out.size))
          clear hb1
          obtain ⟨x0a, x0b, x0c, -⟩ := id F_g.out
          obtain ⟨y0a, y0b, y0c, y0d, -⟩ := id F_r.out
          go_wp2_with fail
          clear x0a x0b x0c y0a y0b y0c y0d
          refine (rbelow_any _ (HS.out.keep HBW.out) hn HB.out).mono ?_
          rintro e w2 ⟨rfl, rfl⟩
          obtain ⟨x0a, x0b, x0c, -⟩ := id F_g.out
          obtain ⟨y0a, y0b, y0c, y0d, -⟩ := id F_r.out
          go_wp2_with fail
          clear x0a x0b x0c y0a y0b y0c y0d
          refine (rnumbered_any _ il iu HN.out).mono ?_
          rintro e w3 ⟨rfl, hb3⟩
          replace F_g := Lib.hid (F_g.out.keep hb3)
          replace F_r := Lib.hid (F_r.out.keep hb3)
          replace HBW := Lib.hid (HBW.out.trans (hb3.mono HBW.out.size))
          clear hb3
          obtain ⟨x0a, x0b, x0c, -⟩ := id F_g.out
          obtain ⟨y0a, y0b, y0c, y0d, -⟩ := id F_r.out
          have hz9 := HBW.out.size
          have hrl := F_r.out.lt
          go_wp2_with fail
          clear x0a x0b x0c y0a y0b y0c y0d
          refine (rOf_any _ HH.out i0' i8 iQ (HS.out.keep HBW.out) l8 HX.out HPS.out HSS.out).mono ?_
          rintro e w5 ⟨v1, v2, rfl, ho1, ho2, hb5⟩
          replace F_g := Lib.hid (F_g.out.keep hb5)
          replace F_r := Lib.hid (F_r.out.keep hb5)
          replace HBW := Lib.hid (HBW.out.trans (hb5.mono HBW.out.size))
          have HO1 := Lib.hid ho1
          have HO2 := Lib.hid ho2
          clear hb5 ho1 ho2
          obtain ⟨o1, e1, rfl⟩ := HO1.out.sl
          obtain ⟨o2, e2, rfl⟩ := HO2.out.sl
          obtain ⟨x0a, x0b, x0c, -⟩ := id F_g.out
          obtain ⟨y0a, y0b, y0c, y0d, -⟩ := id F_r.out
          go_wp2_with fail
          exact bodyPost_ret (res_deal rfl (F_r.out.stored _ _) _ rfl rfl rfl rfl) rfl ⟨_, _, rfl, ((HO1.out.far (by omega) _).far (by omega) _).mono (by omega), ((HO2.out.far (by omega) _).far (by omega) _).mono (by omega), (HBW.out.setCell (by simp <;> omega) _).setCell (by simp <;> omega) _⟩
end Go.Proofs.Ytjfaaicbojnpaaa
