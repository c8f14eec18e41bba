/- The reference's Weights, Join, Raise; shamir.Join, Raise. -/
import Derived.Test.YtjfaaicbojnpaaaShE
import Derived.Test.YtjfaaicbojnpaaaRelZ
namespace Go.Proofs.Ytjfaaicbojnpaaa
open Go.RowKit Num
set_option linter.unusedSimpArgs false
set_option linter.unusedVariables false

theorem weightsS_no {P Q G : Int} {ids : List Int} (h : ¬ Has P Q G) : weightsS P Q G ids = (300, []) := by simp [weightsS, h]
theorem weightsS_arg {P Q G : Int} {ids : List Int} (h : Has P Q G) (hl : listS Q 1 ids = false) : weightsS P Q G ids = (2, []) := by simp [weightsS, h, hl]
theorem weightsS_none {P Q G : Int} {ids : List Int} (h : Has P Q G) (hl : listS Q 1 ids = true) (hw : wAll Q ids ids = none) : weightsS P Q G ids = (6, []) := by simp [weightsS, h, hl, hw]
theorem weightsS_some {P Q G : Int} {ids ws : List Int} (h : Has P Q G) (hl : listS Q 1 ids = true) (hw : wAll Q ids ids = some ws) : weightsS P Q G ids = (0, ws) := by simp [weightsS, h, hl, hw]
/-- The weights of numbers and as many numbers below a limit. -/
def pairedS (P Q G L : Int) (ids xs : List Int) : Int × List Int :=
  if Has P Q G then (if listS Q 1 ids && (decide (xs.length = ids.length) && belowS L xs) then weightsS P Q G ids else (2, [])) else (300, [])
theorem pairedS_ok {P Q G L : Int} {ids xs ws : List Int} (h : pairedS P Q G L ids xs = (0, ws)) : Has P Q G ∧ listS Q 1 ids = true ∧ xs.length = ids.length ∧ belowS L xs = true ∧ wAll Q ids ids = some ws := by
  unfold pairedS at h
  split at h
  · rename_i hH
    split at h
    · rename_i hb
      simp only [Bool.and_eq_true, decide_eq_true_eq] at hb
      refine ⟨hH, hb.1, hb.2.1, hb.2.2, ?_⟩
      unfold weightsS at h
      rw [if_pos hH, if_pos hb.1] at h
      split at h
      · rename_i hw; cases h; exact hw
      · cases h
    · cases h
  · cases h
/-- The sum of the first k products. -/
def joinP (Q : Int) (ws xs : List Int) : Nat → Int
  | 0 => 0
  | k + 1 => (joinP Q ws xs k + ws.getD k 0 * xs.getD k 0 % Q) % Q
theorem joinP_range {Q : Int} (hQ : 0 < Q) (ws xs : List Int) : ∀ k, 0 ≤ joinP Q ws xs k ∧ joinP Q ws xs k < Q
  | 0 => ⟨Int.le_refl _, hQ⟩
  | k + 1 => ⟨Int.emod_nonneg _ (by omega), Int.emod_lt_of_pos _ hQ⟩
/-- The product of the first k powers. -/
def raiseP (P : Int) (ws xs : List Int) : Nat → Int
  | 0 => 1
  | k + 1 => raiseP P ws xs k * powm (xs.getD k 0) (ws.getD k 0) P % P
theorem raiseP_range {P : Int} (hP : 1 < P) (ws xs : List Int) : ∀ k, 0 ≤ raiseP P ws xs k ∧ raiseP P ws xs k < P
  | 0 => ⟨by simp [raiseP], by simpa [raiseP] using hP⟩
  | k + 1 => ⟨Int.emod_nonneg _ (by omega), Int.emod_lt_of_pos _ (by omega)⟩
def joinS (P Q G : Int) (ids xs : List Int) : Int × Int := if (pairedS P Q G Q ids xs).1 = 0 then (joinP Q (pairedS P Q G Q ids xs).2 xs xs.length, 0) else (0, (pairedS P Q G Q ids xs).1)
def raiseS (P Q G : Int) (ids xs : List Int) : Int × Int := if (pairedS P Q G P ids xs).1 = 0 then (raiseP P (pairedS P Q G P ids xs).2 xs xs.length, 0) else (0, (pairedS P Q G P ids xs).1)
theorem shI_some {q : IntKind} {w : World} {a : Option Addr} {n : Nat} {xs : List Int} (h : ShI q w a n xs) (h1 : 1 ≤ n) : ∃ s o, a = some ⟨s, o, none⟩ ∧ n = xs.length ∧ s < w.heap.size ∧ ∀ i, i < n → w.cell? ⟨s, o + i, none⟩ = some (.int q (xs.getD i 0)) := by
  rcases h with ⟨h0, _⟩ | ⟨s, o, h2, h3, h4, h5⟩
  · omega
  · exact ⟨s, o, h2, h3, h4, fun i hi => h5 i (by omega)⟩
theorem list_bd {Q : Int} {least : Int} {ids : List Int} (h : listS Q least ids = true) : ∀ k, k < ids.length → 0 ≤ ids.getD k 0 ∧ ids.getD k 0 < Q ∧ ids.getD k 0 ≤ 8 := fun k hk => by
  rw [getD_at hk]
  have := numS_true (incS_mem (listS_true h).2.2 _ (List.getElem_mem hk)).2
  exact ⟨this.1, this.2.2, this.2.1⟩

set_option maxRecDepth 100000 in
set_option maxHeartbeats 8000000 in
theorem rWeights_any {P Q G er : Int} {a : Option Addr} {n c : Nat} {ids ws : List Int} (w : World) (hP : 0 ≤ P) (hQ : 0 ≤ Q) (hG : 0 ≤ G) (h : ShI .i64 w a n ids) (hn : n ≤ 1000000) (hx : ∀ x, x ∈ ids → I64 x) (hr : weightsS P Q G ids = (er, ws)) :
    Calls Try.prog 30 #[.agg #[.int .u64 P, .int .u64 Q, .int .u64 G], .slice a n c] w (RetRow w er ws) := by
  have HS := Lib.hid h
  have HX := Lib.hid hx
  clear hx
  by_cases hH : Has P Q G
  case neg =>
    obtain ⟨rfl, rfl⟩ := Prod.mk.inj (show (300, []) = (er, ws) by rw [← hr]; exact (weightsS_no hH).symm)
    have HA := Lib.hid (askS_no (es := []) (ns := []) hH)
    clear hr hH h
    have F_g := Lib.hid (show Boxed (w.alloc (.cells #[.int .u64 P, .int .u64 Q, .int .u64 G] 24)) (w.heap.size) P Q G from Boxed.at _ P Q G _ (w.heap.size) (by simp))
    have HBW := Lib.hid (show Below w.heap.size w (w.alloc (.cells #[.int .u64 P, .int .u64 Q, .int .u64 G] 24)) from (Below.refl _ _).alloc (by simp <;> omega) _)
    go_enter Try.func30, Try.ntmps30
    obtain ⟨x0a, x0b, x0c, -⟩ := id F_g.out
    go_wp2_with fail
    clear x0a x0b x0c
    refine (rAsked_any _ hP hQ hG (ShL.nil _) (ShL.nil _) (by simp) (by simp) HA.out).mono ?_
    rintro e w1 ⟨rfl, hb1⟩
    replace F_g := Lib.hid (F_g.out.keep hb1)
    replace HBW := Lib.hid (HBW.out.trans (hb1.mono HBW.out.size))
    clear hb1
    obtain ⟨x0a, x0b, x0c, -⟩ := id F_g.out
    go_wp2_with fail
    go_ret2
    exact ⟨_, rfl, OwnU.nil _ _, HBW.out⟩
  case pos =>
    have HA := Lib.hid (askS_ok (es := []) (ns := []) hH (by simp) (by simp))
    obtain ⟨p5, p3, hQ', pq, g2, gP⟩ := id hH
    have q3 : Q < 1073741824 := by omega
    have HH := Lib.hid hH
    clear pq
    cases hl : listS Q 1 ids
    case false =>
      obtain ⟨rfl, rfl⟩ := Prod.mk.inj (show (2, []) = (er, ws) by rw [← hr]; exact (weightsS_arg hH hl).symm)
      have HL := Lib.hid hl
      clear hr hl hH h
      have F_g := Lib.hid (show Boxed (w.alloc (.cells #[.int .u64 P, .int .u64 Q, .int .u64 G] 24)) (w.heap.size) P Q G from Boxed.at _ P Q G _ (w.heap.size) (by simp))
      have HBW := Lib.hid (show Below w.heap.size w (w.alloc (.cells #[.int .u64 P, .int .u64 Q, .int .u64 G] 24)) from (Below.refl _ _).alloc (by simp <;> omega) _)
      go_enter Try.func30, Try.ntmps30
      obtain ⟨x0a, x0b, x0c, -⟩ := id F_g.out
      go_wp2_with fail
      clear x0a x0b x0c
      refine (rAsked_any _ hP hQ hG (ShL.nil _) (ShL.nil _) (by simp) (by simp) HA.out).mono ?_
      rintro e w1 ⟨rfl, hb1⟩
      replace F_g := Lib.hid (F_g.out.keep hb1)
      replace HBW := Lib.hid (HBW.out.trans (hb1.mono HBW.out.size))
      clear hb1
      obtain ⟨x0a, x0b, x0c, -⟩ := id F_g.out
      go_wp2_with fail
      clear x0a x0b x0c
      refine (rlisted_any _ (by omega) (by omega) (HS.out.keep HBW.out) hn HX.out HL.out).mono ?_
      rintro e w2 ⟨rfl, hb2⟩
      replace F_g := Lib.hid (F_g.out.keep hb2)
      replace HBW := Lib.hid (HBW.out.trans (hb2.mono HBW.out.size))
      clear hb2
      obtain ⟨x0a, x0b, x0c, -⟩ := id F_g.out
      go_wp2_with fail
      go_ret2
      exact ⟨_, rfl, OwnU.nil _ _, HBW.out⟩
    case true =>
      have HL := Lib.hid hl
      obtain ⟨l1, l8, hinc⟩ := listS_true hl
      have HND := Lib.hid (incS_nodup hinc)
      have HBD := Lib.hid (list_bd hl)
      obtain ⟨s, o, rfl, rfl, hs, hcell⟩ := shI_some h (by have := h.len; omega)
      have HC := Lib.hid hcell
      clear hcell hinc h
      cases hw : wAll Q ids ids with
      | none =>
        obtain ⟨rfl, rfl⟩ := Prod.mk.inj (show (6, []) = (er, ws) by rw [← hr]; exact (weightsS_none hH hl hw).symm)
        have HW := Lib.hid hw
        clear hr hl hH hw
        have F_g := Lib.hid (show Boxed (w.alloc (.cells #[.int .u64 P, .int .u64 Q, .int .u64 G] 24)) (w.heap.size) P Q G from Boxed.at _ P Q G _ (w.heap.size) (by simp))
        have HBW := Lib.hid (show Below w.heap.size w (w.alloc (.cells #[.int .u64 P, .int .u64 Q, .int .u64 G] 24)) from (Below.refl _ _).alloc (by simp <;> omega) _)
        go_enter Try.func30, Try.ntmps30
        obtain ⟨x0a, x0b, x0c, -⟩ := id F_g.out
        go_wp2_with fail
        clear x0a x0b x0c
        refine (rAsked_any _ hP hQ hG (ShL.nil _) (ShL.nil _) (by simp) (by simp) HA.out).mono ?_
        rintro e w1 ⟨rfl, hb1⟩
        replace F_g := Lib.hid (F_g.out.keep hb1)
        replace HBW := Lib.hid (HBW.out.trans (hb1.mono HBW.out.size))
        clear hb1
        obtain ⟨x0a, x0b, x0c, -⟩ := id F_g.out
        go_wp2_with fail
        clear x0a x0b x0c
        refine (rlisted_any _ (by omega) (by omega) (HS.out.keep HBW.out) hn HX.out HL.out).mono ?_
        rintro e w2 ⟨rfl, hb2⟩
        replace F_g := Lib.hid (F_g.out.keep hb2)
        replace HBW := Lib.hid (HBW.out.trans (hb2.mono HBW.out.size))
        clear hb2
        obtain ⟨x0a, x0b, x0c, -⟩ := id F_g.out
        go_wp2_with fail
        clear x0a x0b x0c
        refine (rweights_low _ HH.out (by rfl) l8 (Nat.lt_of_lt_of_le hs HBW.out.size) (fun i hi => (HBW.out.cell (p := ⟨s, o + i, none⟩) hs).trans (HC.out i hi)) HBD.out HND.out).mono ?_
        rintro e w3 ⟨v0, rfl, ho3, hb3⟩
        replace F_g := Lib.hid (F_g.out.keep hb3)
        have HBX := Lib.hid HBW.out
        replace HBW := Lib.hid (HBW.out.trans (hb3.mono HBW.out.size))
        have HO := Lib.hid (ho3.mono HBX.out.size)
        clear hb3 ho3 HBX
        rw [HW.out] at HO ⊢
        obtain ⟨oa, oc, rfl⟩ := HO.out.sl
        go_wp2_with fail
        go_ret2
        exact ⟨_, rfl, OwnU.nil _ _, HBW.out⟩
      | some ws' =>
        obtain ⟨rfl, rfl⟩ := Prod.mk.inj (show (0, ws') = (er, ws) by rw [← hr]; exact (weightsS_some hH hl hw).symm)
        have HW := Lib.hid hw
        clear hr hl hH hw
        have F_g := Lib.hid (show Boxed (w.alloc (.cells #[.int .u64 P, .int .u64 Q, .int .u64 G] 24)) (w.heap.size) P Q G from Boxed.at _ P Q G _ (w.heap.size) (by simp))
        have HBW := Lib.hid (show Below w.heap.size w (w.alloc (.cells #[.int .u64 P, .int .u64 Q, .int .u64 G] 24)) from (Below.refl _ _).alloc (by simp <;> omega) _)
        go_enter Try.func30, Try.ntmps30
        obtain ⟨x0a, x0b, x0c, -⟩ := id F_g.out
        go_wp2_with fail
        clear x0a x0b x0c
        refine (rAsked_any _ hP hQ hG (ShL.nil _) (ShL.nil _) (by simp) (by simp) HA.out).mono ?_
        rintro e w1 ⟨rfl, hb1⟩
        replace F_g := Lib.hid (F_g.out.keep hb1)
        replace HBW := Lib.hid (HBW.out.trans (hb1.mono HBW.out.size))
        clear hb1
        obtain ⟨x0a, x0b, x0c, -⟩ := id F_g.out
        go_wp2_with fail
        clear x0a x0b x0c
        refine (rlisted_any _ (by omega) (by omega) (HS.out.keep HBW.out) hn HX.out HL.out).mono ?_
        rintro e w2 ⟨rfl, hb2⟩
        replace F_g := Lib.hid (F_g.out.keep hb2)
        replace HBW := Lib.hid (HBW.out.trans (hb2.mono HBW.out.size))
        clear hb2
        obtain ⟨x0a, x0b, x0c, -⟩ := id F_g.out
        go_wp2_with fail
        clear x0a x0b x0c
        refine (rweights_low _ HH.out (by rfl) l8 (Nat.lt_of_lt_of_le hs HBW.out.size) (fun i hi => (HBW.out.cell (p := ⟨s, o + i, none⟩) hs).trans (HC.out i hi)) HBD.out HND.out).mono ?_
        rintro e w3 ⟨v0, rfl, ho3, hb3⟩
        replace F_g := Lib.hid (F_g.out.keep hb3)
        have HBX := Lib.hid HBW.out
        replace HBW := Lib.hid (HBW.out.trans (hb3.mono HBW.out.size))
        have HO := Lib.hid (ho3.mono HBX.out.size)
        clear hb3 ho3 HBX
        rw [HW.out] at HO ⊢
        obtain ⟨oa, oc, rfl⟩ := HO.out.sl
        go_wp2_with fail
        go_ret2
        exact ⟨_, rfl, HO.out, HBW.out⟩

set_option maxRecDepth 100000 in
set_option maxHeartbeats 8000000 in
theorem sweighted_any {P Q G L er : Int} {a b : Option Addr} {n c m d : Nat} {ids xs ws : List Int} (w : World) (hP : 0 ≤ P) (hQ : 0 ≤ Q) (hG : 0 ≤ G) (h : ShI .i64 w a n ids) (hn : n ≤ 1000000) (hx : ∀ x, x ∈ ids → I64 x) (ht : ShI .u64 w b m xs) (hm : m ≤ 1000000) (hr : pairedS P Q G L ids xs = (er, ws)) :
    Calls Try.prog 74 #[.agg #[.int .u64 P, .int .u64 Q, .int .u64 G], .slice a n c, .slice b m d, .int .u64 L] w (RetRow w er ws) := by
  have HS := Lib.hid h
  have HX := Lib.hid hx
  have HT := Lib.hid ht
  have HL1 := Lib.hid h.len
  have HL2 := Lib.hid ht.len
  clear hx h ht
  by_cases hH : Has P Q G
  case neg =>
    obtain ⟨rfl, rfl⟩ := Prod.mk.inj (show (300, []) = (er, ws) by rw [← hr]; simp [pairedS, hH])
    have HA := Lib.hid (askS_no (es := []) (ns := []) hH)
    have HH := Lib.hid hH
    clear hr hH
    have F_g := Lib.hid (show Boxed (w.alloc (.cells #[.int .u64 P, .int .u64 Q, .int .u64 G] 24)) (w.heap.size) P Q G from Boxed.at _ P Q G _ (w.heap.size) (by simp))
    have HBW := Lib.hid (show Below w.heap.size w (w.alloc (.cells #[.int .u64 P, .int .u64 Q, .int .u64 G] 24)) from (Below.refl _ _).alloc (by simp <;> omega) _)
    go_enter Try.func74, Try.ntmps74
    obtain ⟨x0a, x0b, x0c, -⟩ := id F_g.out
    go_wp2_with fail
    clear x0a x0b x0c
    refine (form_no P Q G _ hP hQ hG HH.out).mono ?_
    rintro e w1 ⟨rfl, hb1⟩
    replace F_g := Lib.hid (F_g.out.keep hb1)
    replace HBW := Lib.hid (HBW.out.trans (hb1.mono HBW.out.size))
    clear hb1
    obtain ⟨x0a, x0b, x0c, -⟩ := id F_g.out
    go_wp2_with fail
    go_ret2
    exact ⟨_, rfl, OwnU.nil _ _, HBW.out⟩
  case pos =>
    have HA := Lib.hid (askS_ok (es := []) (ns := []) hH (by simp) (by simp))
    obtain ⟨p5, p3, hQ', pq, g2, gP⟩ := id hH
    have q3 : Q < 1073741824 := by omega
    have HH := Lib.hid hH
    clear pq
    cases hl : listS Q 1 ids
    case false =>
      obtain ⟨rfl, rfl⟩ := Prod.mk.inj (show (2, []) = (er, ws) by rw [← hr]; simp [pairedS, hH, hl])
      have HL := Lib.hid hl
      clear hr hl hH
      have F_g := Lib.hid (show Boxed (w.alloc (.cells #[.int .u64 P, .int .u64 Q, .int .u64 G] 24)) (w.heap.size) P Q G from Boxed.at _ P Q G _ (w.heap.size) (by simp))
      have HBW := Lib.hid (show Below w.heap.size w (w.alloc (.cells #[.int .u64 P, .int .u64 Q, .int .u64 G] 24)) from (Below.refl _ _).alloc (by simp <;> omega) _)
      go_enter Try.func74, Try.ntmps74
      obtain ⟨x0a, x0b, x0c, -⟩ := id F_g.out
      go_wp2_with fail
      clear x0a x0b x0c
      refine (form_yes P Q G _ HH.out).mono ?_
      rintro e w1 ⟨rfl, hb1⟩
      replace F_g := Lib.hid (F_g.out.keep hb1)
      replace HBW := Lib.hid (HBW.out.trans (hb1.mono HBW.out.size))
      clear hb1
      obtain ⟨x0a, x0b, x0c, -⟩ := id F_g.out
      go_wp2_with fail
      clear x0a x0b x0c
      refine (slisted_any _ (by omega) (by omega) (HS.out.keep HBW.out) hn HX.out HL.out).mono ?_
      rintro e w2 ⟨rfl, hb2⟩
      replace F_g := Lib.hid (F_g.out.keep hb2)
      replace HBW := Lib.hid (HBW.out.trans (hb2.mono HBW.out.size))
      clear hb2
      obtain ⟨x0a, x0b, x0c, -⟩ := id F_g.out
      go_wp2_with fail
      go_ret2
      exact ⟨_, rfl, OwnU.nil _ _, HBW.out⟩
    case true =>
      have HL := Lib.hid hl
      by_cases hmn : m = n
      case neg =>
        have hln : ¬ xs.length = ids.length := by rw [← HL1.out, ← HL2.out]; exact hmn
        obtain ⟨rfl, rfl⟩ := Prod.mk.inj (show (2, []) = (er, ws) by rw [← hr]; simp [pairedS, hH, hl, hln])
        have dm : ((m : Int) != (n : Int)) = true := by simp; omega
        have dmn : (m != n) = true := by simpa using hmn
        clear hr hl hH hln hmn
        have F_g := Lib.hid (show Boxed (w.alloc (.cells #[.int .u64 P, .int .u64 Q, .int .u64 G] 24)) (w.heap.size) P Q G from Boxed.at _ P Q G _ (w.heap.size) (by simp))
        have HBW := Lib.hid (show Below w.heap.size w (w.alloc (.cells #[.int .u64 P, .int .u64 Q, .int .u64 G] 24)) from (Below.refl _ _).alloc (by simp <;> omega) _)
        go_enter Try.func74, Try.ntmps74
        obtain ⟨x0a, x0b, x0c, -⟩ := id F_g.out
        go_wp2_with fail
        clear x0a x0b x0c
        refine (form_yes P Q G _ HH.out).mono ?_
        rintro e w1 ⟨rfl, hb1⟩
        replace F_g := Lib.hid (F_g.out.keep hb1)
        replace HBW := Lib.hid (HBW.out.trans (hb1.mono HBW.out.size))
        clear hb1
        obtain ⟨x0a, x0b, x0c, -⟩ := id F_g.out
        go_wp2_with fail
        clear x0a x0b x0c
        refine (slisted_any _ (by omega) (by omega) (HS.out.keep HBW.out) hn HX.out HL.out).mono ?_
        rintro e w2 ⟨rfl, hb2⟩
        replace F_g := Lib.hid (F_g.out.keep hb2)
        replace HBW := Lib.hid (HBW.out.trans (hb2.mono HBW.out.size))
        clear hb2
        obtain ⟨x0a, x0b, x0c, -⟩ := id F_g.out
        go_wp2_with fail
        go_ret2
        exact ⟨_, rfl, OwnU.nil _ _, HBW.out⟩
      case pos =>
        have hln : xs.length = ids.length := by rw [← HL1.out, ← HL2.out]; exact hmn
        have dm : ((m : Int) != (n : Int)) = false := by simp; omega
        have dmn : (m != n) = false := by simpa using hmn
        cases hb : belowS L xs
        case false =>
          obtain ⟨rfl, rfl⟩ := Prod.mk.inj (show (2, []) = (er, ws) by rw [← hr]; simp [pairedS, hH, hl, hln, hb])
          have HB := Lib.hid hb
          clear hr hl hH hln hb hmn
          have F_g := Lib.hid (show Boxed (w.alloc (.cells #[.int .u64 P, .int .u64 Q, .int .u64 G] 24)) (w.heap.size) P Q G from Boxed.at _ P Q G _ (w.heap.size) (by simp))
          have HBW := Lib.hid (show Below w.heap.size w (w.alloc (.cells #[.int .u64 P, .int .u64 Q, .int .u64 G] 24)) from (Below.refl _ _).alloc (by simp <;> omega) _)
          go_enter Try.func74, Try.ntmps74
          obtain ⟨x0a, x0b, x0c, -⟩ := id F_g.out
          go_wp2_with fail
          clear x0a x0b x0c
          refine (form_yes P Q G _ HH.out).mono ?_
          rintro e w1 ⟨rfl, hb1⟩
          replace F_g := Lib.hid (F_g.out.keep hb1)
          replace HBW := Lib.hid (HBW.out.trans (hb1.mono HBW.out.size))
          clear hb1
          obtain ⟨x0a, x0b, x0c, -⟩ := id F_g.out
          go_wp2_with fail
          clear x0a x0b x0c
          refine (slisted_any _ (by omega) (by omega) (HS.out.keep HBW.out) hn HX.out HL.out).mono ?_
          rintro e w2 ⟨rfl, hb2⟩
          replace F_g := Lib.hid (F_g.out.keep hb2)
          replace HBW := Lib.hid (HBW.out.trans (hb2.mono HBW.out.size))
          clear hb2
          obtain ⟨x0a, x0b, x0c, -⟩ := id F_g.out
          go_wp2_with fail
          clear x0a x0b x0c
          refine (sbelow_any _ (HT.out.keep HBW.out) HB.out).mono ?_
          rintro e w3 ⟨rfl, hb3⟩
          replace F_g := Lib.hid (F_g.out.keep hb3)
          replace HBW := Lib.hid (HBW.out.trans (hb3.mono HBW.out.size))
          clear hb3
          obtain ⟨x0a, x0b, x0c, -⟩ := id F_g.out
          go_wp2_with fail
          go_ret2
          exact ⟨_, rfl, OwnU.nil _ _, HBW.out⟩
        case true =>
          have HW := Lib.hid (show weightsS P Q G ids = (er, ws) by rw [← hr]; simp [pairedS, hH, hl, hln, hb])
          have HB := Lib.hid hb
          clear hr hl hH hln hb hmn
          have F_g := Lib.hid (show Boxed (w.alloc (.cells #[.int .u64 P, .int .u64 Q, .int .u64 G] 24)) (w.heap.size) P Q G from Boxed.at _ P Q G _ (w.heap.size) (by simp))
          have HBW := Lib.hid (show Below w.heap.size w (w.alloc (.cells #[.int .u64 P, .int .u64 Q, .int .u64 G] 24)) from (Below.refl _ _).alloc (by simp <;> omega) _)
          go_enter Try.func74, Try.ntmps74
          obtain ⟨x0a, x0b, x0c, -⟩ := id F_g.out
          go_wp2_with fail
          clear x0a x0b x0c
          refine (form_yes P Q G _ HH.out).mono ?_
          rintro e w1 ⟨rfl, hb1⟩
          replace F_g := Lib.hid (F_g.out.keep hb1)
          replace HBW := Lib.hid (HBW.out.trans (hb1.mono HBW.out.size))
          clear hb1
          obtain ⟨x0a, x0b, x0c, -⟩ := id F_g.out
          go_wp2_with fail
          clear x0a x0b x0c
          refine (slisted_any _ (by omega) (by omega) (HS.out.keep HBW.out) hn HX.out HL.out).mono ?_
          rintro e w2 ⟨rfl, hb2⟩
          replace F_g := Lib.hid (F_g.out.keep hb2)
          replace HBW := Lib.hid (HBW.out.trans (hb2.mono HBW.out.size))
          clear hb2
          obtain ⟨x0a, x0b, x0c, -⟩ := id F_g.out
          go_wp2_with fail
          clear x0a x0b x0c
          refine (sbelow_any _ (HT.out.keep HBW.out) HB.out).mono ?_
          rintro e w3 ⟨rfl, hb3⟩
          replace F_g := Lib.hid (F_g.out.keep hb3)
          replace HBW := Lib.hid (HBW.out.trans (hb3.mono HBW.out.size))
          clear hb3
          obtain ⟨x0a, x0b, x0c, -⟩ := id F_g.out
          go_wp2_with fail
          clear x0a x0b x0c
          refine (sweights_any _ hP hQ hG (HS.out.keep HBW.out) hn HX.out HW.out).mono ?_
          rintro e w4 ⟨v0, rfl, ho4, hb4⟩
          replace F_g := Lib.hid (F_g.out.keep hb4)
          have HBX := Lib.hid HBW.out
          replace HBW := Lib.hid (HBW.out.trans (hb4.mono HBW.out.size))
          have HO := Lib.hid (ho4.mono HBX.out.size)
          clear hb4 ho4 HBX
          obtain ⟨oa, oc, rfl⟩ := HO.out.sl
          obtain ⟨x0a, x0b, x0c, -⟩ := id F_g.out
          go_wp2_with fail
          go_ret2
          exact ⟨_, rfl, HO.out, HBW.out⟩

set_option maxRecDepth 100000 in
set_option maxHeartbeats 8000000 in
theorem rpaired_any {P Q G L er : Int} {a b : Option Addr} {n c m d : Nat} {ids xs ws : List Int} (w : World) (hP : 0 ≤ P) (hQ : 0 ≤ Q) (hG : 0 ≤ G) (h : ShI .i64 w a n ids) (hn : n ≤ 1000000) (hx : ∀ x, x ∈ ids → I64 x) (ht : ShI .u64 w b m xs) (hm : m ≤ 1000000) (hr : pairedS P Q G L ids xs = (er, ws)) :
    Calls Try.prog 75 #[.agg #[.int .u64 P, .int .u64 Q, .int .u64 G], .slice a n c, .slice b m d, .int .u64 L] w (RetRow w er ws) := by
  have HS := Lib.hid h
  have HX := Lib.hid hx
  have HT := Lib.hid ht
  have HL1 := Lib.hid h.len
  have HL2 := Lib.hid ht.len
  clear hx h ht
  by_cases hH : Has P Q G
  case neg =>
    obtain ⟨rfl, rfl⟩ := Prod.mk.inj (show (300, []) = (er, ws) by rw [← hr]; simp [pairedS, hH])
    have HA := Lib.hid (askS_no (es := []) (ns := []) hH)
    have HH := Lib.hid hH
    clear hr hH
    have F_g := Lib.hid (show Boxed (w.alloc (.cells #[.int .u64 P, .int .u64 Q, .int .u64 G] 24)) (w.heap.size) P Q G from Boxed.at _ P Q G _ (w.heap.size) (by simp))
    have HBW := Lib.hid (show Below w.heap.size w (w.alloc (.cells #[.int .u64 P, .int .u64 Q, .int .u64 G] 24)) from (Below.refl _ _).alloc (by simp <;> omega) _)
    go_enter Try.func75, Try.ntmps75
    obtain ⟨x0a, x0b, x0c, -⟩ := id F_g.out
    go_wp2_with fail
    clear x0a x0b x0c
    refine (rAsked_any _ hP hQ hG (ShL.nil _) (ShL.nil _) (by simp) (by simp) HA.out).mono ?_
    rintro e w1 ⟨rfl, hb1⟩
    replace F_g := Lib.hid (F_g.out.keep hb1)
    replace HBW := Lib.hid (HBW.out.trans (hb1.mono HBW.out.size))
    clear hb1
    obtain ⟨x0a, x0b, x0c, -⟩ := id F_g.out
    go_wp2_with fail
    go_ret2
    exact ⟨_, rfl, OwnU.nil _ _, HBW.out⟩
  case pos =>
    have HA := Lib.hid (askS_ok (es := []) (ns := []) hH (by simp) (by simp))
    obtain ⟨p5, p3, hQ', pq, g2, gP⟩ := id hH
    have q3 : Q < 1073741824 := by omega
    have HH := Lib.hid hH
    clear pq
    cases hl : listS Q 1 ids
    case false =>
      obtain ⟨rfl, rfl⟩ := Prod.mk.inj (show (2, []) = (er, ws) by rw [← hr]; simp [pairedS, hH, hl])
      have HL := Lib.hid hl
      clear hr hl hH
      have F_g := Lib.hid (show Boxed (w.alloc (.cells #[.int .u64 P, .int .u64 Q, .int .u64 G] 24)) (w.heap.size) P Q G from Boxed.at _ P Q G _ (w.heap.size) (by simp))
      have HBW := Lib.hid (show Below w.heap.size w (w.alloc (.cells #[.int .u64 P, .int .u64 Q, .int .u64 G] 24)) from (Below.refl _ _).alloc (by simp <;> omega) _)
      go_enter Try.func75, Try.ntmps75
      obtain ⟨x0a, x0b, x0c, -⟩ := id F_g.out
      go_wp2_with fail
      clear x0a x0b x0c
      refine (rAsked_any _ hP hQ hG (ShL.nil _) (ShL.nil _) (by simp) (by simp) HA.out).mono ?_
      rintro e w1 ⟨rfl, hb1⟩
      replace F_g := Lib.hid (F_g.out.keep hb1)
      replace HBW := Lib.hid (HBW.out.trans (hb1.mono HBW.out.size))
      clear hb1
      obtain ⟨x0a, x0b, x0c, -⟩ := id F_g.out
      go_wp2_with fail
      clear x0a x0b x0c
      refine (rlisted_any _ (by omega) (by omega) (HS.out.keep HBW.out) hn HX.out HL.out).mono ?_
      rintro e w2 ⟨rfl, hb2⟩
      replace F_g := Lib.hid (F_g.out.keep hb2)
      replace HBW := Lib.hid (HBW.out.trans (hb2.mono HBW.out.size))
      clear hb2
      obtain ⟨x0a, x0b, x0c, -⟩ := id F_g.out
      go_wp2_with fail
      go_ret2
      exact ⟨_, rfl, OwnU.nil _ _, HBW.out⟩
    case true =>
      have HL := Lib.hid hl
      by_cases hmn : m = n
      case neg =>
        have hln : ¬ xs.length = ids.length := by rw [← HL1.out, ← HL2.out]; exact hmn
        obtain ⟨rfl, rfl⟩ := Prod.mk.inj (show (2, []) = (er, ws) by rw [← hr]; simp [pairedS, hH, hl, hln])
        have dm : ((m : Int) != (n : Int)) = true := by simp; omega
        have dmn : (m != n) = true := by simpa using hmn
        clear hr hl hH hln hmn
        have F_g := Lib.hid (show Boxed (w.alloc (.cells #[.int .u64 P, .int .u64 Q, .int .u64 G] 24)) (w.heap.size) P Q G from Boxed.at _ P Q G _ (w.heap.size) (by simp))
        have HBW := Lib.hid (show Below w.heap.size w (w.alloc (.cells #[.int .u64 P, .int .u64 Q, .int .u64 G] 24)) from (Below.refl _ _).alloc (by simp <;> omega) _)
        go_enter Try.func75, Try.ntmps75
        obtain ⟨x0a, x0b, x0c, -⟩ := id F_g.out
        go_wp2_with fail
        clear x0a x0b x0c
        refine (rAsked_any _ hP hQ hG (ShL.nil _) (ShL.nil _) (by simp) (by simp) HA.out).mono ?_
        rintro e w1 ⟨rfl, hb1⟩
        replace F_g := Lib.hid (F_g.out.keep hb1)
        replace HBW := Lib.hid (HBW.out.trans (hb1.mono HBW.out.size))
        clear hb1
        obtain ⟨x0a, x0b, x0c, -⟩ := id F_g.out
        go_wp2_with fail
        clear x0a x0b x0c
        refine (rlisted_any _ (by omega) (by omega) (HS.out.keep HBW.out) hn HX.out HL.out).mono ?_
        rintro e w2 ⟨rfl, hb2⟩
        replace F_g := Lib.hid (F_g.out.keep hb2)
        replace HBW := Lib.hid (HBW.out.trans (hb2.mono HBW.out.size))
        clear hb2
        obtain ⟨x0a, x0b, x0c, -⟩ := id F_g.out
        go_wp2_with fail
        go_ret2
        exact ⟨_, rfl, OwnU.nil _ _, HBW.out⟩
      case pos =>
        have hln : xs.length = ids.length := by rw [← HL1.out, ← HL2.out]; exact hmn
        have dm : ((m : Int) != (n : Int)) = false := by simp; omega
        have dmn : (m != n) = false := by simpa using hmn
        cases hb : belowS L xs
        case false =>
          obtain ⟨rfl, rfl⟩ := Prod.mk.inj (show (2, []) = (er, ws) by rw [← hr]; simp [pairedS, hH, hl, hln, hb])
          have HB := Lib.hid hb
          clear hr hl hH hln hb hmn
          have F_g := Lib.hid (show Boxed (w.alloc (.cells #[.int .u64 P, .int .u64 Q, .int .u64 G] 24)) (w.heap.size) P Q G from Boxed.at _ P Q G _ (w.heap.size) (by simp))
          have HBW := Lib.hid (show Below w.heap.size w (w.alloc (.cells #[.int .u64 P, .int .u64 Q, .int .u64 G] 24)) from (Below.refl _ _).alloc (by simp <;> omega) _)
          go_enter Try.func75, Try.ntmps75
          obtain ⟨x0a, x0b, x0c, -⟩ := id F_g.out
          go_wp2_with fail
          clear x0a x0b x0c
          refine (rAsked_any _ hP hQ hG (ShL.nil _) (ShL.nil _) (by simp) (by simp) HA.out).mono ?_
          rintro e w1 ⟨rfl, hb1⟩
          replace F_g := Lib.hid (F_g.out.keep hb1)
          replace HBW := Lib.hid (HBW.out.trans (hb1.mono HBW.out.size))
          clear hb1
          obtain ⟨x0a, x0b, x0c, -⟩ := id F_g.out
          go_wp2_with fail
          clear x0a x0b x0c
          refine (rlisted_any _ (by omega) (by omega) (HS.out.keep HBW.out) hn HX.out HL.out).mono ?_
          rintro e w2 ⟨rfl, hb2⟩
          replace F_g := Lib.hid (F_g.out.keep hb2)
          replace HBW := Lib.hid (HBW.out.trans (hb2.mono HBW.out.size))
          clear hb2
          obtain ⟨x0a, x0b, x0c, -⟩ := id F_g.out
          go_wp2_with fail
          clear x0a x0b x0c
          refine (rbelow_any _ (HT.out.keep HBW.out) hm HB.out).mono ?_
          rintro e w3 ⟨rfl, rfl⟩
          obtain ⟨x0a, x0b, x0c, -⟩ := id F_g.out
          go_wp2_with fail
          go_ret2
          exact ⟨_, rfl, OwnU.nil _ _, HBW.out⟩
        case true =>
          have HW := Lib.hid (show weightsS P Q G ids = (er, ws) by rw [← hr]; simp [pairedS, hH, hl, hln, hb])
          have HB := Lib.hid hb
          clear hr hl hH hln hb hmn
          have F_g := Lib.hid (show Boxed (w.alloc (.cells #[.int .u64 P, .int .u64 Q, .int .u64 G] 24)) (w.heap.size) P Q G from Boxed.at _ P Q G _ (w.heap.size) (by simp))
          have HBW := Lib.hid (show Below w.heap.size w (w.alloc (.cells #[.int .u64 P, .int .u64 Q, .int .u64 G] 24)) from (Below.refl _ _).alloc (by simp <;> omega) _)
          go_enter Try.func75, Try.ntmps75
          obtain ⟨x0a, x0b, x0c, -⟩ := id F_g.out
          go_wp2_with fail
          clear x0a x0b x0c
          refine (rAsked_any _ hP hQ hG (ShL.nil _) (ShL.nil _) (by simp) (by simp) HA.out).mono ?_
          rintro e w1 ⟨rfl, hb1⟩
          replace F_g := Lib.hid (F_g.out.keep hb1)
          replace HBW := Lib.hid (HBW.out.trans (hb1.mono HBW.out.size))
          clear hb1
          obtain ⟨x0a, x0b, x0c, -⟩ := id F_g.out
          go_wp2_with fail
          clear x0a x0b x0c
          refine (rlisted_any _ (by omega) (by omega) (HS.out.keep HBW.out) hn HX.out HL.out).mono ?_
          rintro e w2 ⟨rfl, hb2⟩
          replace F_g := Lib.hid (F_g.out.keep hb2)
          replace HBW := Lib.hid (HBW.out.trans (hb2.mono HBW.out.size))
          clear hb2
          obtain ⟨x0a, x0b, x0c, -⟩ := id F_g.out
          go_wp2_with fail
          clear x0a x0b x0c
          refine (rbelow_any _ (HT.out.keep HBW.out) hm HB.out).mono ?_
          rintro e w3 ⟨rfl, rfl⟩
          obtain ⟨x0a, x0b, x0c, -⟩ := id F_g.out
          go_wp2_with fail
          clear x0a x0b x0c
          refine (rWeights_any _ hP hQ hG (HS.out.keep HBW.out) hn HX.out HW.out).mono ?_
          rintro e w4 ⟨v0, rfl, ho4, hb4⟩
          replace F_g := Lib.hid (F_g.out.keep hb4)
          have HBX := Lib.hid HBW.out
          replace HBW := Lib.hid (HBW.out.trans (hb4.mono HBW.out.size))
          have HO := Lib.hid (ho4.mono HBX.out.size)
          clear hb4 ho4 HBX
          obtain ⟨oa, oc, rfl⟩ := HO.out.sl
          obtain ⟨x0a, x0b, x0c, -⟩ := id F_g.out
          go_wp2_with fail
          go_ret2
          exact ⟨_, rfl, HO.out, HBW.out⟩
end Go.Proofs.Ytjfaaicbojnpaaa
