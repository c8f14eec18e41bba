/- Folded: Intp, ShNames. -/
import Derived.Test.YtjfaaicbojnpaaaOwnN
import Derived.Test.YtjfaaicbojnpaaaShG
import Derived.Test.YtjfaaicbojnpaaaMg2
import Derived.Test.YtjfaaicbojnpaaaAux34
import Derived.Test.YtjfaaicbojnpaaaOpen
import Derived.Test.YtjfaaicbojnpaaaRows
import Derived.Laws.MakeOwn
import Derived.Laws.OwnMore
import Derived.OwnWalk
import Derived.Deep.Cut
/- shamir.Interpolate: Newton's divided differences. -/
namespace Go.Proofs.Ytjfaaicbojnpaaa
open Go.RowKit Num
set_option linter.unusedSimpArgs false
set_option linter.unusedVariables false

/-- One round over the sum: positions behind m are new. -/
def InB (Q x : Int) (n : Nat) (out : List Int) (m : Nat) (o : List Int) : Prop :=
  o.length = n ∧ ∀ j, o.getD j 0 = if m < j ∧ j < n then (out.getD (j - 1) 0 - out.getD j 0 * x % Q) % Q else out.getD j 0
theorem InB.start {Q x : Int} {n : Nat} {out : List Int} (h : out.length = n) : InB Q x n out (n - 1) out := ⟨h, fun j => by rw [if_neg (by omega)]⟩
theorem InB.step {Q x : Int} {n m : Nat} {out o : List Int} (h : InB Q x n out m o) (h1 : 1 ≤ m) (hm : m < n) :
    InB Q x n out (m - 1) (o.set m ((o.getD (m - 1) 0 - o.getD m 0 * x % Q) % Q)) := by
  refine ⟨by rw [List.length_set]; exact h.1, fun j => ?_⟩
  rw [getD_set (by rw [h.1]; exact hm)]
  by_cases e : m = j
  · subst e
    rw [if_pos rfl, if_pos (by omega), h.2, h.2, if_neg (by omega), if_neg (by omega)]
  · rw [if_neg e, h.2 j]
    by_cases e2 : m < j ∧ j < n
    · rw [if_pos e2, if_pos (by omega)]
    · rw [if_neg e2, if_neg (by omega)]
theorem getD_rng {Q : Int} (hQ : 0 < Q) {l : List Int} (h : ∀ x, x ∈ l → 0 ≤ x ∧ x < Q) (j : Nat) : 0 ≤ l.getD j 0 ∧ l.getD j 0 < Q := by
  by_cases hj : j < l.length
  · rw [getD_at hj]; exact h _ (List.getElem_mem hj)
  · rw [List.getD_eq_getElem?_getD, List.getElem?_eq_none (by omega)]; exact ⟨Int.le_refl _, hQ⟩
theorem InB.rng {Q x : Int} {n m : Nat} {out o : List Int} (hQ : 0 < Q) (h : InB Q x n out m o) (hr : ∀ x, x ∈ out → 0 ≤ x ∧ x < Q) (j : Nat) : 0 ≤ o.getD j 0 ∧ o.getD j 0 < Q := by
  rw [h.2 j]
  split
  · exact ⟨Int.emod_nonneg _ (by omega), Int.emod_lt_of_pos _ hQ⟩
  · exact getD_rng hQ hr j
theorem getD_over {l : List Int} {j : Nat} (h : l.length ≤ j) : l.getD j 0 = 0 := by rw [List.getD_eq_getElem?_getD, List.getElem?_eq_none h]; rfl
theorem InB.last {Q ci : Int} {ids r out o : List Int} {i : Nat} (hQ : 0 < Q) (hi : i < ids.length) (hrl : r.length = ids.length) (hO : OutS Q ids r (i + 1) out) (hc : Cg Q ci (cc ids r i i))
    (h : InB Q (ids.getD i 0) ids.length out 0 o) : OutS Q ids r i (o.set 0 ((ci + (0 - o.getD 0 0 * ids.getD i 0 % Q) % Q) % Q)) := by
  have hr := h.rng hQ hO.2.1
  refine ⟨by rw [List.length_set]; exact h.1, fun x hx => ?_, fun j => ?_⟩
  · rcases mem_set hx with hx | rfl
    · obtain ⟨k, hk, rfl⟩ := List.mem_iff_getElem.1 hx
      have := hr k
      rwa [getD_at hk] at this
    · exact ⟨Int.emod_nonneg _ (by omega), Int.emod_lt_of_pos _ hQ⟩
  · rw [getD_set (by rw [h.1]; omega)]
    have hs := out_step hi hrl hO j
    by_cases e : 0 = j
    · subst e
      rw [if_pos rfl] at hs ⊢
      refine Cg.trans ?_ hs
      rw [h.2 0, if_neg (by omega)]
      refine (cg_emod _ _).trans ((hc.add ((cg_emod _ _).trans ((Cg.refl Q 0).sub (cg_emod _ _)))).trans (Cg.of_eq ?_))
      omega
    · rw [if_neg e, h.2 j]
      by_cases e2 : 0 < j ∧ j < ids.length
      · rw [if_pos e2]
        rw [if_neg (by omega)] at hs
        exact Cg.trans ((cg_emod _ _).trans ((Cg.refl Q _).sub (cg_emod _ _))) hs
      · rw [if_neg e2, getD_over (by rw [hO.1]; omega), getD_over (by rw [dvs_length, hrl]; omega)]
        exact Cg.refl _ _
theorem OutS.start {Q : Int} {ids r : List Int} (hQ : 0 < Q) (hrl : r.length = ids.length) : OutS Q ids r ids.length (List.replicate ids.length 0) := by
  refine ⟨by simp, fun x hx => by rw [List.mem_replicate] at hx; rw [hx.2]; exact ⟨Int.le_refl _, hQ⟩, fun j => ?_⟩
  rw [getD_over (l := dvs (seg ids 0 ids.length) r) (by rw [dvs_length]; simp [seg]; omega)]
  refine Cg.of_eq ?_
  by_cases hj : j < ids.length
  · rw [getD_at (by simpa using hj)]; simp
  · rw [getD_over (by simpa using hj)]
theorem OutS.done {Q : Int} {ids r out : List Int} (hrl : r.length = ids.length) (hr : ∀ x, x ∈ r → 0 ≤ x ∧ x < Q) (h : OutS Q ids r 0 out) : out = r :=
  list_eq_of_cg (by rw [h.1, hrl]) (fun k _ => by have := h.2.2 k; simpa [seg, dvs] using this) h.2.1 hr
/-- The coefficients through the points, or nothing. -/
def tailS (Q : Int) (ids vs : List Int) : Int × List Int := match throughS Q ids vs with | some r => (0, r) | none => (6, [])
theorem tail_none {Q : Int} {ids vs : List Int} (h : throughS Q ids vs = none) : tailS Q ids vs = (6, []) := by simp [tailS, h]
theorem tail_some {Q : Int} {ids vs r : List Int} (h : throughS Q ids vs = some r) : tailS Q ids vs = (0, r) := by simp [tailS, h]
def interpS (P Q G : Int) (ids vs : List Int) : Int × List Int :=
  if Has P Q G then (if listS Q 0 ids && (decide (vs.length = ids.length) && belowS Q vs) then tailS Q ids vs else (2, [])) else (300, [])
theorem DifS.over {Q : Int} {ids vs c : List Int} {k : Nat} (hQ : 0 < Q) (hnd : ids.Nodup) (hl : vs.length = ids.length) (hk : ids.length ≤ k) (h : DifS Q ids vs k (ids.length - 1) c) :
    ∃ r, throughS Q ids vs = some r ∧ r.length = ids.length ∧ (∀ x, x ∈ r → 0 ≤ x ∧ x < Q) ∧ ∀ j, j < ids.length → Cg Q (c.getD j 0) (cc ids r j j) := by
  obtain ⟨r, hr⟩ := sumL_ex (h.met.units hQ hk) (ids.zip vs) (List.replicate ids.length 0) (fun q hq => (List.of_mem_zip hq).1)
  have hr : throughS Q ids vs = some r := hr
  obtain ⟨h1, h2, -, -⟩ := through_at hQ hnd hl hr
  refine ⟨r, hr, h1, h2, fun j hj => ?_⟩
  have := h.val r hr j hj
  rwa [if_neg (by omega), show min (k - 1) j = j by omega] at this

set_option maxRecDepth 100000 in
set_option maxHeartbeats 8000000 in
theorem sinterp_any {P Q G er : Int} {a b : Option Addr} {n c m d : Nat} {ids vs rs : List Int} (w : World) (hP : 0 ≤ P) (hQ : 0 ≤ Q) (hG : 0 ≤ G) (h : ShI .i64 w a n ids) (hn : n ≤ 1000000) (hx : ∀ x, x ∈ ids → I64 x) (ht : ShI .u64 w b m vs) (hm : m ≤ 1000000) (hu : ∀ x, x ∈ vs → U64 x) (hr : interpS P Q G ids vs = (er, rs)) :
    Calls Try.prog 35 #[.agg #[.int .u64 P, .int .u64 Q, .int .u64 G], .slice a n c, .slice b m d] w (RetRow w er rs) := by
  have HS := Lib.hid h
  have HX := Lib.hid hx
  have HT := Lib.hid ht
  have HL1 := Lib.hid h.len
  have HL2 := Lib.hid ht.len
  clear hx ht
  by_cases hH : Has P Q G
  case neg =>
    obtain ⟨rfl, rfl⟩ := Prod.mk.inj (show (300, []) = (er, rs) by rw [← hr]; simp [interpS, hH])
    have HH := Lib.hid hH
    clear hr hH h hu
    have F_g := Lib.hid (show Boxed (w.alloc (.cells #[.int .u64 P, .int .u64 Q, .int .u64 G] 24)) (w.heap.size) P Q G from Boxed.at _ P Q G _ (w.heap.size) (by simp))
    have HBW := Lib.hid (show Below w.heap.size w (w.alloc (.cells #[.int .u64 P, .int .u64 Q, .int .u64 G] 24)) from (Below.refl _ _).alloc (by simp <;> omega) _)
    go_enter Try.func35, Try.ntmps35
    obtain ⟨x0a, x0b, x0c, -⟩ := id F_g.out
    go_wp2_with fail
    clear x0a x0b x0c
    refine (form_no P Q G _ hP hQ hG HH.out).mono ?_
    rintro e w1 ⟨rfl, hb1⟩
    replace F_g := Lib.hid (F_g.out.keep hb1)
    replace HBW := Lib.hid (HBW.out.trans (hb1.mono HBW.out.size))
    clear hb1
    obtain ⟨x0a, x0b, x0c, -⟩ := id F_g.out
    go_wp2_with fail
    go_ret2
    exact ⟨_, rfl, OwnU.nil _ _, HBW.out⟩
  case pos =>
    obtain ⟨p5, p3, hQ', pq, g2, gP⟩ := id hH
    have q3 : Q < 1073741824 := by omega
    have q1 : 1 < Q := by omega
    have HH := Lib.hid hH
    clear pq
    cases hl : listS Q 0 ids
    case false =>
      obtain ⟨rfl, rfl⟩ := Prod.mk.inj (show (2, []) = (er, rs) by rw [← hr]; simp [interpS, hH, hl])
      have HL := Lib.hid hl
      clear hr hl hH h hu
      have F_g := Lib.hid (show Boxed (w.alloc (.cells #[.int .u64 P, .int .u64 Q, .int .u64 G] 24)) (w.heap.size) P Q G from Boxed.at _ P Q G _ (w.heap.size) (by simp))
      have HBW := Lib.hid (show Below w.heap.size w (w.alloc (.cells #[.int .u64 P, .int .u64 Q, .int .u64 G] 24)) from (Below.refl _ _).alloc (by simp <;> omega) _)
      go_enter Try.func35, Try.ntmps35
      obtain ⟨x0a, x0b, x0c, -⟩ := id F_g.out
      go_wp2_with fail
      clear x0a x0b x0c
      refine (form_yes P Q G _ HH.out).mono ?_
      rintro e w1 ⟨rfl, hb1⟩
      replace F_g := Lib.hid (F_g.out.keep hb1)
      replace HBW := Lib.hid (HBW.out.trans (hb1.mono HBW.out.size))
      clear hb1
      obtain ⟨x0a, x0b, x0c, -⟩ := id F_g.out
      go_wp2_with fail
      clear x0a x0b x0c
      refine (slisted_any _ (by omega) (by omega) (HS.out.keep HBW.out) hn HX.out HL.out).mono ?_
      rintro e w2 ⟨rfl, hb2⟩
      replace F_g := Lib.hid (F_g.out.keep hb2)
      replace HBW := Lib.hid (HBW.out.trans (hb2.mono HBW.out.size))
      clear hb2
      obtain ⟨x0a, x0b, x0c, -⟩ := id F_g.out
      go_wp2_with fail
      go_ret2
      exact ⟨_, rfl, OwnU.nil _ _, HBW.out⟩
    case true =>
      have HL := Lib.hid hl
      by_cases hmn : m = n
      case neg =>
        have hln : ¬ vs.length = ids.length := by rw [← HL1.out, ← HL2.out]; exact hmn
        obtain ⟨rfl, rfl⟩ := Prod.mk.inj (show (2, []) = (er, rs) by rw [← hr]; simp [interpS, hH, hl, hln])
        have dm : ((m : Int) != (n : Int)) = true := by simp; omega
        have dmn : (m != n) = true := by simpa using hmn
        clear hr hl hH hln hmn h hu
        have F_g := Lib.hid (show Boxed (w.alloc (.cells #[.int .u64 P, .int .u64 Q, .int .u64 G] 24)) (w.heap.size) P Q G from Boxed.at _ P Q G _ (w.heap.size) (by simp))
        have HBW := Lib.hid (show Below w.heap.size w (w.alloc (.cells #[.int .u64 P, .int .u64 Q, .int .u64 G] 24)) from (Below.refl _ _).alloc (by simp <;> omega) _)
        go_enter Try.func35, Try.ntmps35
        obtain ⟨x0a, x0b, x0c, -⟩ := id F_g.out
        go_wp2_with fail
        clear x0a x0b x0c
        refine (form_yes P Q G _ HH.out).mono ?_
        rintro e w1 ⟨rfl, hb1⟩
        replace F_g := Lib.hid (F_g.out.keep hb1)
        replace HBW := Lib.hid (HBW.out.trans (hb1.mono HBW.out.size))
        clear hb1
        obtain ⟨x0a, x0b, x0c, -⟩ := id F_g.out
        go_wp2_with fail
        clear x0a x0b x0c
        refine (slisted_any _ (by omega) (by omega) (HS.out.keep HBW.out) hn HX.out HL.out).mono ?_
        rintro e w2 ⟨rfl, hb2⟩
        replace F_g := Lib.hid (F_g.out.keep hb2)
        replace HBW := Lib.hid (HBW.out.trans (hb2.mono HBW.out.size))
        clear hb2
        obtain ⟨x0a, x0b, x0c, -⟩ := id F_g.out
        go_wp2_with fail
        go_ret2
        exact ⟨_, rfl, OwnU.nil _ _, HBW.out⟩
      case pos =>
        have hln : vs.length = ids.length := by rw [← HL1.out, ← HL2.out]; exact hmn
        have hnm := hmn.symm
        clear hmn
        subst hnm
        cases hb : belowS Q vs
        case false =>
          obtain ⟨rfl, rfl⟩ := Prod.mk.inj (show (2, []) = (er, rs) by rw [← hr]; simp [interpS, hH, hl, hln, hb])
          have HB := Lib.hid hb
          clear hr hl hH hln hb h hu
          have F_g := Lib.hid (show Boxed (w.alloc (.cells #[.int .u64 P, .int .u64 Q, .int .u64 G] 24)) (w.heap.size) P Q G from Boxed.at _ P Q G _ (w.heap.size) (by simp))
          have HBW := Lib.hid (show Below w.heap.size w (w.alloc (.cells #[.int .u64 P, .int .u64 Q, .int .u64 G] 24)) from (Below.refl _ _).alloc (by simp <;> omega) _)
          go_enter Try.func35, Try.ntmps35
          obtain ⟨x0a, x0b, x0c, -⟩ := id F_g.out
          go_wp2_with fail
          clear x0a x0b x0c
          refine (form_yes P Q G _ HH.out).mono ?_
          rintro e w1 ⟨rfl, hb1⟩
          replace F_g := Lib.hid (F_g.out.keep hb1)
          replace HBW := Lib.hid (HBW.out.trans (hb1.mono HBW.out.size))
          clear hb1
          obtain ⟨x0a, x0b, x0c, -⟩ := id F_g.out
          go_wp2_with fail
          clear x0a x0b x0c
          refine (slisted_any _ (by omega) (by omega) (HS.out.keep HBW.out) hn HX.out HL.out).mono ?_
          rintro e w2 ⟨rfl, hb2⟩
          replace F_g := Lib.hid (F_g.out.keep hb2)
          replace HBW := Lib.hid (HBW.out.trans (hb2.mono HBW.out.size))
          clear hb2
          obtain ⟨x0a, x0b, x0c, -⟩ := id F_g.out
          go_wp2_with fail
          clear x0a x0b x0c
          refine (sbelow_any _ (HT.out.keep HBW.out) HB.out).mono ?_
          rintro e w3 ⟨rfl, hb3⟩
          replace F_g := Lib.hid (F_g.out.keep hb3)
          replace HBW := Lib.hid (HBW.out.trans (hb3.mono HBW.out.size))
          clear hb3
          obtain ⟨x0a, x0b, x0c, -⟩ := id F_g.out
          go_wp2_with fail
          go_ret2
          exact ⟨_, rfl, OwnU.nil _ _, HBW.out⟩
        case true =>
          have HW := Lib.hid (show tailS Q ids vs = (er, rs) by rw [← hr]; simp [interpS, hH, hl, hln, hb])
          have HB := Lib.hid hb
          obtain ⟨l1, l8, hinc⟩ := listS_true hl
          have HND := Lib.hid (incS_nodup hinc)
          have HBD := Lib.hid (list_bd hl)
          have HVR := Lib.hid (belowS_bd hb hu)
          have HLN := Lib.hid hln
          have hm1 : 1 ≤ n := by have := HL1.out; omega
          have hn8 : n ≤ 8 := by have := HL1.out; omega
          obtain ⟨s, o, rfl, -, hs, hcell⟩ := shI_some h hm1
          have HC := Lib.hid hcell
          clear hr hl hH hln hb h hu hcell hinc l1 l8
          have F_g := Lib.hid (show Boxed (w.alloc (.cells #[.int .u64 P, .int .u64 Q, .int .u64 G] 24)) (w.heap.size) P Q G from Boxed.at _ P Q G _ (w.heap.size) (by simp))
          have HBW := Lib.hid (show Below w.heap.size w (w.alloc (.cells #[.int .u64 P, .int .u64 Q, .int .u64 G] 24)) from (Below.refl _ _).alloc (by simp <;> omega) _)
          go_enter Try.func35, Try.ntmps35
          obtain ⟨x0a, x0b, x0c, -⟩ := id F_g.out
          go_wp2_with fail
          clear x0a x0b x0c
          refine (form_yes P Q G _ HH.out).mono ?_
          rintro e w1 ⟨rfl, hb1⟩
          replace F_g := Lib.hid (F_g.out.keep hb1)
          replace HBW := Lib.hid (HBW.out.trans (hb1.mono HBW.out.size))
          clear hb1
          obtain ⟨x0a, x0b, x0c, -⟩ := id F_g.out
          go_wp2_with fail
          clear x0a x0b x0c
          refine (slisted_any _ (by omega) (by omega) (HS.out.keep HBW.out) hn HX.out HL.out).mono ?_
          rintro e w2 ⟨rfl, hb2⟩
          replace F_g := Lib.hid (F_g.out.keep hb2)
          replace HBW := Lib.hid (HBW.out.trans (hb2.mono HBW.out.size))
          clear hb2
          obtain ⟨x0a, x0b, x0c, -⟩ := id F_g.out
          go_wp2_with fail
          clear x0a x0b x0c
          refine (sbelow_any _ (HT.out.keep HBW.out) HB.out).mono ?_
          rintro e w3 ⟨rfl, hb3⟩
          replace F_g := Lib.hid (F_g.out.keep hb3)
          replace HBW := Lib.hid (HBW.out.trans (hb3.mono HBW.out.size))
          clear hb3
          obtain ⟨x0a, x0b, x0c, -⟩ := id F_g.out
          go_wp2_with fail
          clear x0a x0b x0c
          refine (sclone_any _ (HT.out.keep HBW.out) hm1 (by omega)).mono ?_
          rintro e w4 ⟨v0, rfl, ho4, hb4⟩
          obtain ⟨gc, cap, rfl, hoc⟩ := (ho4.mono (Nat.succ_le_of_lt F_g.out.lt)).of2 HL2.out hm1
          have F_c := Lib.hid hoc
          replace F_g := Lib.hid (F_g.out.keep hb4)
          replace HBW := Lib.hid (HBW.out.trans (hb4.mono HBW.out.size))
          have hgc := F_c.out.lt.1
          clear hb4 ho4 hoc
          have hwn : IntKind.i64.wrap ((n : Int) - 1) = (n : Int) - 1 := IntWalk.i64_in _ (by omega)
          go_wp2_with fail
          go_loopw [10, 11, 12, 13] (fun c10 c11 c12 c13 wr => ∃ k : Nat, 1 ≤ k ∧ k ≤ n ∧ c10 = .int .i64 k ∧ ∃ cs : List Int, Hid (DifS Q ids vs k (n - 1) cs) ∧ Hid (OwnN wr (w.heap.size + 1) gc n cap cs) ∧ Hid (Boxed wr w.heap.size P Q G) ∧ Hid (Below w.heap.size w wr)) (fun c10 _ _ _ _ => n - (intOf c10).toNat)
          case atStart => exact ⟨1, Nat.le_refl _, hm1, rfl, vs, (show DifS Q ids vs 1 (n - 1) vs by rw [HL1.out]; exact DifS.start (by omega) HND.out HLN.out HVR.out), F_c.out, F_g.out, HBW.out⟩
          case round =>
            clear F_g F_c HBW
            obtain ⟨k, k1, kn, rfl, cs, HD, F_c, F_g, HBW⟩ := hrel
            obtain ⟨wo, rfl⟩ : ∃ wo : World, wo = wr := ⟨_, rfl⟩
            by_cases hlt : k < n
            case pos =>
              have hlt' : (k : Int) < (n : Int) := by omega
              go_wp2_with fail
              go_loopw [11, 12, 13] (fun c11 c12 c13 wr => ∃ i : Nat, k ≤ i + 1 ∧ i < n ∧ c11 = .int .i64 i ∧ ∃ cs : List Int, Hid (DifS Q ids vs k i cs) ∧ Hid (OwnN wr (w.heap.size + 1) gc n cap cs) ∧ Hid (Boxed wr w.heap.size P Q G) ∧ Hid (Below w.heap.size w wr)) (fun c11 _ _ _ => (intOf c11).toNat)
              case atStart => exact ⟨n - 1, by omega, by omega, congrArg _ (by omega), cs, HD.out, F_c.out, F_g.out, HBW.out⟩
              case round =>
                clear F_g F_c HBW HD cs
                obtain ⟨i, hki, hin, rfl, cs, HD, F_c, F_g, HBW⟩ := hrel
                by_cases hge : k ≤ i
                case neg =>
                  have hge' : (i : Int) < (k : Int) := by omega
                  have hge2 : ¬ ((k : Int) ≤ (i : Int)) := by omega
                  have HI := Lib.hid (show i = k - 1 by omega)
                  go_wp2_with fail
                  go_roundw
                  case rel => exact ⟨k + 1, by omega, by omega, by go_num, cs, (show DifS Q ids vs (k + 1) (n - 1) cs by rw [HL1.out]; refine DifS.next k1 ?_; rw [← HI.out]; exact HD.out), F_c.out, F_g.out, HBW.out⟩
                  case measure => simp [intOf] <;> omega
                case pos =>
                  have hge' : (k : Int) ≤ (i : Int) := by omega
                  have hi0 : (0 : Int) ≤ (i : Int) := by omega
                  have hi1 : (i : Int) < (n : Int) := by omega
                  obtain ⟨d, hd⟩ : ∃ d, i - k = d := ⟨_, rfl⟩
                  obtain ⟨e, he⟩ : ∃ e, i - 1 = e := ⟨_, rfl⟩
                  have hdn : d < n := by omega
                  have hen : e < n := by omega
                  have hd0 : (0 : Int) ≤ (d : Int) := by omega
                  have hd1 : (d : Int) < (n : Int) := by omega
                  have he0 : (0 : Int) ≤ (e : Int) := by omega
                  have he1 : (e : Int) < (n : Int) := by omega
                  have hwd : IntKind.i64.wrap ((i : Int) - (k : Int)) = (d : Int) := by rw [IntWalk.i64_in _ (by omega)]; omega
                  have hwe : IntKind.i64.wrap ((i : Int) - 1) = (e : Int) := by rw [IntWalk.i64_in _ (by omega)]; omega
                  obtain ⟨x, hx⟩ : ∃ x, ids.getD i 0 = x := ⟨_, rfl⟩
                  obtain ⟨y, hy⟩ : ∃ y, ids.getD d 0 = y := ⟨_, rfl⟩
                  have HCX := Lib.hid (show w.cell? ⟨s, o + i, none⟩ = some (.int .i64 x) by rw [← hx]; exact HC.out i hin)
                  have HCY := Lib.hid (show w.cell? ⟨s, o + d, none⟩ = some (.int .i64 y) by rw [← hy]; exact HC.out d hdn)
                  obtain ⟨x0, xQ, x8⟩ := show 0 ≤ x ∧ x < Q ∧ x ≤ 8 by rw [← hx]; exact HBD.out i (by rw [← HL1.out]; exact hin)
                  obtain ⟨y0, yQ, y8⟩ := show 0 ≤ y ∧ y < Q ∧ y ≤ 8 by rw [← hy]; exact HBD.out d (by rw [← HL1.out]; exact hdn)
                  obtain ⟨dd, hdd⟩ : ∃ z, (x - y) % Q = z := ⟨_, rfl⟩
                  have d0 : 0 ≤ dd := by rw [← hdd]; exact Int.emod_nonneg _ (by omega)
                  have dQ : dd < Q := by rw [← hdd]; exact Int.emod_lt_of_pos _ (by omega)
                  have HDD := Lib.hid hdd
                  have HXY := Lib.hid (show (ids.getD i 0 - ids.getD (i - k) 0) % Q = dd by rw [hx, hd, hy]; exact hdd)
                  have HE := Lib.hid he
                  have HDE := Lib.hid hd
                  clear hx hy hdd he hd
                  cases hi : invF Q dd with
                  | none =>
                    obtain ⟨u, hu'⟩ : ∃ u : Int, u = 0 := ⟨_, rfl⟩
                    have HU := Lib.hid (show InvS Q dd false u by rw [hu']; exact invS_none (by omega) hi)
                    have HN := Lib.hid (show throughS Q ids vs = none from through_none (i := i) (j := i - k) (by omega) HND.out HLN.out (by rw [← HL1.out]; exact hin) (by rw [← HL1.out]; omega) (by omega) (by rw [HXY.out]; exact hi))
                    obtain ⟨rfl, rfl⟩ := Prod.mk.inj (show (6, []) = (er, rs) by rw [← HW.out]; exact (tail_none HN.out).symm)
                    clear hi hu'
                    go_wp2_with fail
                    replace F_g := Lib.hid F_g.out.drew
                    replace F_c := Lib.hid F_c.out.drew
                    replace HBW := Lib.hid HBW.out.drew
                    have hS := And.intro F_g.out.s (And.intro ((HBW.out.cell (p := ⟨s, o + i, none⟩) hs).trans HCX.out) ((HBW.out.cell (p := ⟨s, o + d, none⟩) hs).trans HCY.out))
                    refine wp_region_stage 20 (fun w' => SBox w' w.heap.size P Q G ∧ w'.cell? ⟨s, o + i, none⟩ = some (.int .i64 x) ∧ w'.cell? ⟨s, o + d, none⟩ = some (.int .i64 y)) (by kernel_rfl) ?_
                    refine wpAnyB_take (i := 0) (some 57) (Op.load 24 (Operand.tmp 3)) 24 (v := ?_) ⟨_, rfl, rfl, rfl, rfl, rfl⟩ (by kernel_rfl) (by kernel_rfl) (by kernel_rfl) [15, 16, 17, 18, 19, 20] (by kernel_rfl) (fun _ _ _ h => h) hS (fun w' hSw => ?_) ?_
                    rotate_left
                    · obtain ⟨⟨b0, b1, b2⟩, b3, b4⟩ := hSw
                      unfold bareOp
                      go_simp
                      try with_reducible rfl
                    simp only [Act.put, List.setIfInBounds_toArray, List.set_cons_zero, List.set_cons_succ]
                    refine wpAnyB_take (i := 1) (some 58) (Op.load 24 (Operand.tmp 3)) 24 (v := ?_) ⟨_, rfl, rfl, rfl, rfl, rfl⟩ (by kernel_rfl) (by kernel_rfl) (by kernel_rfl) [14, 15, 16, 17, 18, 19, 20] (by kernel_rfl) (fun _ _ _ h => h) hS (fun w' hSw => ?_) ?_
                    rotate_left
                    · obtain ⟨⟨b0, b1, b2⟩, b3, b4⟩ := hSw
                      unfold bareOp
                      go_simp
                      try with_reducible rfl
                    simp only [Act.put, List.setIfInBounds_toArray, List.set_cons_zero, List.set_cons_succ]
                    refine wpAnyB_takeP (i := 2) (some 59) (Op.move (Operand.tmp 1)) 51 (v := ?_) ⟨_, rfl, rfl, rfl, rfl, rfl⟩ (by kernel_rfl) (by kernel_rfl) (by kernel_rfl) (by kernel_rfl) (fun _ _ _ h => h) (fun _ => hS) (fun w' => ?_) ?_
                    rotate_left
                    · unfold bareOp
                      go_simp
                      try with_reducible rfl
                    simp only [Act.put, List.setIfInBounds_toArray, List.set_cons_zero, List.set_cons_succ]
                    refine wpAnyB_takeP (i := 3) (some 60) (Op.move (Operand.tmp 11)) 3 (v := ?_) ⟨_, rfl, rfl, rfl, rfl, rfl⟩ (by kernel_rfl) (by kernel_rfl) (by kernel_rfl) (by kernel_rfl) (fun _ _ _ h => h) (fun _ => hS) (fun w' => ?_) ?_
                    rotate_left
                    · unfold bareOp
                      go_simp
                      try with_reducible rfl
                    simp only [Act.put, List.setIfInBounds_toArray, List.set_cons_zero, List.set_cons_succ]
                    refine wpAnyB_takeP (i := 4) (some 61) (Op.indexAddr 51 (Operand.tmp 59) (Operand.tmp 60)) 0 (v := ?_) ⟨_, rfl, rfl, rfl, rfl, rfl⟩ (by kernel_rfl) (by kernel_rfl) (by kernel_rfl) (by kernel_rfl) (fun _ _ _ h => h) (fun _ => hS) (fun w' => ?_) ?_
                    rotate_left
                    · unfold bareOp
                      go_simp
                      try with_reducible rfl
                    simp only [Act.put, List.setIfInBounds_toArray, List.set_cons_zero, List.set_cons_succ]
                    refine wpAnyB_take (i := 5) (some 62) (Op.load 3 (Operand.tmp 61)) 3 (v := ?_) ⟨_, rfl, rfl, rfl, rfl, rfl⟩ (by kernel_rfl) (by kernel_rfl) (by kernel_rfl) [6, 14, 15, 16, 17, 18, 19, 20] (by kernel_rfl) (fun _ _ _ h => h) hS (fun w' hSw => ?_) ?_
                    rotate_left
                    · obtain ⟨⟨b0, b1, b2⟩, b3, b4⟩ := hSw
                      unfold bareOp
                      go_simp
                      try with_reducible rfl
                    simp only [Act.put, List.setIfInBounds_toArray, List.set_cons_zero, List.set_cons_succ]
                    refine wpAnyB_takeP (i := 6) (some 63) (Op.convert 3 22 (Operand.tmp 62)) 22 (v := ?_) ⟨_, rfl, rfl, rfl, rfl, rfl⟩ (by kernel_rfl) (by kernel_rfl) (by kernel_rfl) (by kernel_rfl) (fun _ _ _ h => h) (fun _ => hS) (fun w' => ?_) ?_
                    rotate_left
                    · unfold bareOp
                      go_simp
                      try with_reducible rfl
                    simp only [Act.put, List.setIfInBounds_toArray, List.set_cons_zero, List.set_cons_succ]
                    refine wpAnyB_takeP (i := 7) (some 64) (Op.move (Operand.tmp 1)) 51 (v := ?_) ⟨_, rfl, rfl, rfl, rfl, rfl⟩ (by kernel_rfl) (by kernel_rfl) (by kernel_rfl) (by kernel_rfl) (fun _ _ _ h => h) (fun _ => hS) (fun w' => ?_) ?_
                    rotate_left
                    · unfold bareOp
                      go_simp
                      try with_reducible rfl
                    simp only [Act.put, List.setIfInBounds_toArray, List.set_cons_zero, List.set_cons_succ]
                    refine wpAnyB_takeP (i := 8) (some 65) (Op.move (Operand.tmp 11)) 3 (v := ?_) ⟨_, rfl, rfl, rfl, rfl, rfl⟩ (by kernel_rfl) (by kernel_rfl) (by kernel_rfl) (by kernel_rfl) (fun _ _ _ h => h) (fun _ => hS) (fun w' => ?_) ?_
                    rotate_left
                    · unfold bareOp
                      go_simp
                      try with_reducible rfl
                    simp only [Act.put, List.setIfInBounds_toArray, List.set_cons_zero, List.set_cons_succ]
                    refine wpAnyB_takeP (i := 9) (some 66) (Op.move (Operand.tmp 10)) 3 (v := ?_) ⟨_, rfl, rfl, rfl, rfl, rfl⟩ (by kernel_rfl) (by kernel_rfl) (by kernel_rfl) (by kernel_rfl) (fun _ _ _ h => h) (fun _ => hS) (fun w' => ?_) ?_
                    rotate_left
                    · unfold bareOp
                      go_simp
                      try with_reducible rfl
                    simp only [Act.put, List.setIfInBounds_toArray, List.set_cons_zero, List.set_cons_succ]
                    refine wpAnyB_takeP (i := 10) (some 67) (Op.binOp BinOp.sub 3 (Operand.tmp 65) (Operand.tmp 66) 3) 3 (v := ?_) ⟨_, rfl, rfl, rfl, rfl, rfl⟩ (by kernel_rfl) (by kernel_rfl) (by kernel_rfl) (by kernel_rfl) (fun _ _ _ h => h) (fun _ => hS) (fun w' => ?_) ?_
                    rotate_left
                    · unfold bareOp
                      go_simp
                      try with_reducible rfl
                    simp only [Act.put, List.setIfInBounds_toArray, List.set_cons_zero, List.set_cons_succ]
                    refine wpAnyB_takeP (i := 11) (some 68) (Op.indexAddr 51 (Operand.tmp 64) (Operand.tmp 67)) 0 (v := ?_) ⟨_, rfl, rfl, rfl, rfl, rfl⟩ (by kernel_rfl) (by kernel_rfl) (by kernel_rfl) (by kernel_rfl) (fun _ _ _ h => h) (fun _ => hS) (fun w' => ?_) ?_
                    rotate_left
                    · unfold bareOp
                      go_simp
                      try with_reducible rfl
                    simp only [Act.put, List.setIfInBounds_toArray, List.set_cons_zero, List.set_cons_succ]
                    refine wpAnyB_take (i := 12) (some 69) (Op.load 3 (Operand.tmp 68)) 3 (v := ?_) ⟨_, rfl, rfl, rfl, rfl, rfl⟩ (by kernel_rfl) (by kernel_rfl) (by kernel_rfl) [13, 14, 15, 16, 17, 18, 19, 20] (by kernel_rfl) (fun _ _ _ h => h) hS (fun w' hSw => ?_) ?_
                    rotate_left
                    · obtain ⟨⟨b0, b1, b2⟩, b3, b4⟩ := hSw
                      unfold bareOp
                      go_simp
                      try with_reducible rfl
                    simp only [Act.put, List.setIfInBounds_toArray, List.set_cons_zero, List.set_cons_succ]
                    refine wpAnyB_takeP (i := 13) (some 70) (Op.convert 3 22 (Operand.tmp 69)) 22 (v := ?_) ⟨_, rfl, rfl, rfl, rfl, rfl⟩ (by kernel_rfl) (by kernel_rfl) (by kernel_rfl) (by kernel_rfl) (fun _ _ _ h => h) (fun _ => hS) (fun w' => ?_) ?_
                    rotate_left
                    · unfold bareOp
                      go_simp
                      try with_reducible rfl
                    simp only [Act.put, List.setIfInBounds_toArray, List.set_cons_zero, List.set_cons_succ]
                    refine wpAnyB_only (i := 14) (some 71) (Op.call { callee := Callee.value (Operand.func 70), args := #[Operand.tmp 58, Operand.tmp 63, Operand.tmp 70], argTypes := #[24, 22, 22] }) 22 ⟨_, rfl, rfl, rfl, rfl, rfl⟩ (by kernel_rfl) (fun K hK => ?_)
                    unfold bareOp
                    go_wp2_with (go_at_call 70; refine (sless_ok _ HH.out x0 xQ y0 yQ HDD.out).mono ?_; rintro e w8 ⟨rfl, hb8⟩)
                    replace F_g := Lib.hid (F_g.out.keep hb8)
                    replace F_c := Lib.hid (F_c.out.keep hb8)
                    replace HBW := Lib.hid (HBW.out.trans (hb8.mono HBW.out.size))
                    replace hS := And.intro F_g.out.s (And.intro ((HBW.out.cell (p := ⟨s, o + i, none⟩) hs).trans HCX.out) ((HBW.out.cell (p := ⟨s, o + d, none⟩) hs).trans HCY.out))
                    clear hb8
                    refine hK.out _ _ (fun _ => hS) ?_
                    clear hK K
                    try simp only [Act.put, List.setIfInBounds_toArray, List.set_cons_zero, List.set_cons_succ]
                    refine wpAnyB_only (i := 15) (some 72) (Op.call { callee := Callee.value (Operand.func 69), args := #[Operand.tmp 57, Operand.tmp 71], argTypes := #[24, 22] }) 39 ⟨_, rfl, rfl, rfl, rfl, rfl⟩ (by kernel_rfl) (fun K hK => ?_)
                    unfold bareOp
                    go_wp2_with (go_at_call 69; refine (invExp_ok P Q G dd u 6 false _ HH.out d0 dQ HU.out rfl).mono ?_; rintro e w8 ⟨rfl, hb8⟩)
                    replace F_g := Lib.hid (F_g.out.keep hb8)
                    replace F_c := Lib.hid (F_c.out.keep hb8)
                    replace HBW := Lib.hid (HBW.out.trans (hb8.mono HBW.out.size))
                    replace hS := And.intro F_g.out.s (And.intro ((HBW.out.cell (p := ⟨s, o + i, none⟩) hs).trans HCX.out) ((HBW.out.cell (p := ⟨s, o + d, none⟩) hs).trans HCY.out))
                    clear hb8
                    refine hK.out _ _ (fun _ => hS) ?_
                    clear hK K
                    try simp only [Act.put, List.setIfInBounds_toArray, List.set_cons_zero, List.set_cons_succ]
                    refine wpAnyB_takeP (i := 16) (some 56) (Op.move (Operand.tmp 72)) 39 (v := ?_) ⟨_, rfl, rfl, rfl, rfl, rfl⟩ (by kernel_rfl) (by kernel_rfl) (by kernel_rfl) (by kernel_rfl) (fun _ _ _ h => h) (fun _ => hS) (fun w' => ?_) ?_
                    rotate_left
                    · unfold bareOp
                      go_simp
                      try with_reducible rfl
                    simp only [Act.put, List.setIfInBounds_toArray, List.set_cons_zero, List.set_cons_succ]
                    refine wpAnyB_takeP (i := 17) (some 73) (Op.extract (Operand.tmp 56) 0) 22 (v := ?_) ⟨_, rfl, rfl, rfl, rfl, rfl⟩ (by kernel_rfl) (by kernel_rfl) (by kernel_rfl) (by kernel_rfl) (fun _ _ _ h => h) (fun _ => hS) (fun w' => ?_) ?_
                    rotate_left
                    · unfold bareOp
                      go_simp
                      try with_reducible rfl
                    simp only [Act.put, List.setIfInBounds_toArray, List.set_cons_zero, List.set_cons_succ]
                    refine wpAnyB_takeP (i := 18) (some 74) (Op.extract (Operand.tmp 56) 1) 30 (v := ?_) ⟨_, rfl, rfl, rfl, rfl, rfl⟩ (by kernel_rfl) (by kernel_rfl) (by kernel_rfl) (by kernel_rfl) (fun _ _ _ h => h) (fun _ => hS) (fun w' => ?_) ?_
                    rotate_left
                    · unfold bareOp
                      go_simp
                      try with_reducible rfl
                    simp only [Act.put, List.setIfInBounds_toArray, List.set_cons_zero, List.set_cons_succ]
                    refine wpAnyB_takeP (i := 19) (some 12) (Op.assign (Operand.tmp 73)) 22 (v := ?_) ⟨_, rfl, rfl, rfl, rfl, rfl⟩ (by kernel_rfl) (by kernel_rfl) (by kernel_rfl) (by kernel_rfl) (fun _ _ _ h => h) (fun _ => hS) (fun w' => ?_) ?_
                    rotate_left
                    · unfold bareOp
                      go_simp
                      try with_reducible rfl
                    simp only [Act.put, List.setIfInBounds_toArray, List.set_cons_zero, List.set_cons_succ]
                    refine wpAnyB_only (i := 20) (some 13) (Op.assign (Operand.tmp 74)) 30 ⟨_, rfl, rfl, rfl, rfl, rfl⟩ (by kernel_rfl) (fun K hK => ?_)
                    unfold bareOp
                    go_wp2_with fail
                    refine hK.out _ _ (fun h => absurd (h.symm.trans (by kernel_rfl : _ = true)) (by decide)) ?_
                    clear hK K
                    try simp only [Act.put, List.setIfInBounds_toArray, List.set_cons_zero, List.set_cons_succ]
                    refine wpAnyB_done (by kernel_rfl) ?_ _
                    go_wp2_with fail
                    go_ret2
                    exact ⟨_, rfl, OwnU.nil _ _, HBW.out⟩
                  | some u =>
                    have HU := Lib.hid (invS_some hi)
                    have HI := Lib.hid hi
                    obtain ⟨u0, uQ, -⟩ := invF_some hi
                    clear hi
                    go_wp2_with fail
                    replace F_g := Lib.hid F_g.out.drew
                    replace F_c := Lib.hid F_c.out.drew
                    replace HBW := Lib.hid HBW.out.drew
                    have hS := And.intro F_g.out.s (And.intro ((HBW.out.cell (p := ⟨s, o + i, none⟩) hs).trans HCX.out) ((HBW.out.cell (p := ⟨s, o + d, none⟩) hs).trans HCY.out))
                    refine wp_region_stage 20 (fun w' => SBox w' w.heap.size P Q G ∧ w'.cell? ⟨s, o + i, none⟩ = some (.int .i64 x) ∧ w'.cell? ⟨s, o + d, none⟩ = some (.int .i64 y)) (by kernel_rfl) ?_
                    refine wpAnyB_take (i := 0) (some 57) (Op.load 24 (Operand.tmp 3)) 24 (v := ?_) ⟨_, rfl, rfl, rfl, rfl, rfl⟩ (by kernel_rfl) (by kernel_rfl) (by kernel_rfl) [15, 16, 17, 18, 19, 20] (by kernel_rfl) (fun _ _ _ h => h) hS (fun w' hSw => ?_) ?_
                    rotate_left
                    · obtain ⟨⟨b0, b1, b2⟩, b3, b4⟩ := hSw
                      unfold bareOp
                      go_simp
                      try with_reducible rfl
                    simp only [Act.put, List.setIfInBounds_toArray, List.set_cons_zero, List.set_cons_succ]
                    refine wpAnyB_take (i := 1) (some 58) (Op.load 24 (Operand.tmp 3)) 24 (v := ?_) ⟨_, rfl, rfl, rfl, rfl, rfl⟩ (by kernel_rfl) (by kernel_rfl) (by kernel_rfl) [14, 15, 16, 17, 18, 19, 20] (by kernel_rfl) (fun _ _ _ h => h) hS (fun w' hSw => ?_) ?_
                    rotate_left
                    · obtain ⟨⟨b0, b1, b2⟩, b3, b4⟩ := hSw
                      unfold bareOp
                      go_simp
                      try with_reducible rfl
                    simp only [Act.put, List.setIfInBounds_toArray, List.set_cons_zero, List.set_cons_succ]
                    refine wpAnyB_takeP (i := 2) (some 59) (Op.move (Operand.tmp 1)) 51 (v := ?_) ⟨_, rfl, rfl, rfl, rfl, rfl⟩ (by kernel_rfl) (by kernel_rfl) (by kernel_rfl) (by kernel_rfl) (fun _ _ _ h => h) (fun _ => hS) (fun w' => ?_) ?_
                    rotate_left
                    · unfold bareOp
                      go_simp
                      try with_reducible rfl
                    simp only [Act.put, List.setIfInBounds_toArray, List.set_cons_zero, List.set_cons_succ]
                    refine wpAnyB_takeP (i := 3) (some 60) (Op.move (Operand.tmp 11)) 3 (v := ?_) ⟨_, rfl, rfl, rfl, rfl, rfl⟩ (by kernel_rfl) (by kernel_rfl) (by kernel_rfl) (by kernel_rfl) (fun _ _ _ h => h) (fun _ => hS) (fun w' => ?_) ?_
                    rotate_left
                    · unfold bareOp
                      go_simp
                      try with_reducible rfl
                    simp only [Act.put, List.setIfInBounds_toArray, List.set_cons_zero, List.set_cons_succ]
                    refine wpAnyB_takeP (i := 4) (some 61) (Op.indexAddr 51 (Operand.tmp 59) (Operand.tmp 60)) 0 (v := ?_) ⟨_, rfl, rfl, rfl, rfl, rfl⟩ (by kernel_rfl) (by kernel_rfl) (by kernel_rfl) (by kernel_rfl) (fun _ _ _ h => h) (fun _ => hS) (fun w' => ?_) ?_
                    rotate_left
                    · unfold bareOp
                      go_simp
                      try with_reducible rfl
                    simp only [Act.put, List.setIfInBounds_toArray, List.set_cons_zero, List.set_cons_succ]
                    refine wpAnyB_take (i := 5) (some 62) (Op.load 3 (Operand.tmp 61)) 3 (v := ?_) ⟨_, rfl, rfl, rfl, rfl, rfl⟩ (by kernel_rfl) (by kernel_rfl) (by kernel_rfl) [6, 14, 15, 16, 17, 18, 19, 20] (by kernel_rfl) (fun _ _ _ h => h) hS (fun w' hSw => ?_) ?_
                    rotate_left
                    · obtain ⟨⟨b0, b1, b2⟩, b3, b4⟩ := hSw
                      unfold bareOp
                      go_simp
                      try with_reducible rfl
                    simp only [Act.put, List.setIfInBounds_toArray, List.set_cons_zero, List.set_cons_succ]
                    refine wpAnyB_takeP (i := 6) (some 63) (Op.convert 3 22 (Operand.tmp 62)) 22 (v := ?_) ⟨_, rfl, rfl, rfl, rfl, rfl⟩ (by kernel_rfl) (by kernel_rfl) (by kernel_rfl) (by kernel_rfl) (fun _ _ _ h => h) (fun _ => hS) (fun w' => ?_) ?_
                    rotate_left
                    · unfold bareOp
                      go_simp
                      try with_reducible rfl
                    simp only [Act.put, List.setIfInBounds_toArray, List.set_cons_zero, List.set_cons_succ]
                    refine wpAnyB_takeP (i := 7) (some 64) (Op.move (Operand.tmp 1)) 51 (v := ?_) ⟨_, rfl, rfl, rfl, rfl, rfl⟩ (by kernel_rfl) (by kernel_rfl) (by kernel_rfl) (by kernel_rfl) (fun _ _ _ h => h) (fun _ => hS) (fun w' => ?_) ?_
                    rotate_left
                    · unfold bareOp
                      go_simp
                      try with_reducible rfl
                    simp only [Act.put, List.setIfInBounds_toArray, List.set_cons_zero, List.set_cons_succ]
                    refine wpAnyB_takeP (i := 8) (some 65) (Op.move (Operand.tmp 11)) 3 (v := ?_) ⟨_, rfl, rfl, rfl, rfl, rfl⟩ (by kernel_rfl) (by kernel_rfl) (by kernel_rfl) (by kernel_rfl) (fun _ _ _ h => h) (fun _ => hS) (fun w' => ?_) ?_
                    rotate_left
                    · unfold bareOp
                      go_simp
                      try with_reducible rfl
                    simp only [Act.put, List.setIfInBounds_toArray, List.set_cons_zero, List.set_cons_succ]
                    refine wpAnyB_takeP (i := 9) (some 66) (Op.move (Operand.tmp 10)) 3 (v := ?_) ⟨_, rfl, rfl, rfl, rfl, rfl⟩ (by kernel_rfl) (by kernel_rfl) (by kernel_rfl) (by kernel_rfl) (fun _ _ _ h => h) (fun _ => hS) (fun w' => ?_) ?_
                    rotate_left
                    · unfold bareOp
                      go_simp
                      try with_reducible rfl
                    simp only [Act.put, List.setIfInBounds_toArray, List.set_cons_zero, List.set_cons_succ]
                    refine wpAnyB_takeP (i := 10) (some 67) (Op.binOp BinOp.sub 3 (Operand.tmp 65) (Operand.tmp 66) 3) 3 (v := ?_) ⟨_, rfl, rfl, rfl, rfl, rfl⟩ (by kernel_rfl) (by kernel_rfl) (by kernel_rfl) (by kernel_rfl) (fun _ _ _ h => h) (fun _ => hS) (fun w' => ?_) ?_
                    rotate_left
                    · unfold bareOp
                      go_simp
                      try with_reducible rfl
                    simp only [Act.put, List.setIfInBounds_toArray, List.set_cons_zero, List.set_cons_succ]
                    refine wpAnyB_takeP (i := 11) (some 68) (Op.indexAddr 51 (Operand.tmp 64) (Operand.tmp 67)) 0 (v := ?_) ⟨_, rfl, rfl, rfl, rfl, rfl⟩ (by kernel_rfl) (by kernel_rfl) (by kernel_rfl) (by kernel_rfl) (fun _ _ _ h => h) (fun _ => hS) (fun w' => ?_) ?_
                    rotate_left
                    · unfold bareOp
                      go_simp
                      try with_reducible rfl
                    simp only [Act.put, List.setIfInBounds_toArray, List.set_cons_zero, List.set_cons_succ]
                    refine wpAnyB_take (i := 12) (some 69) (Op.load 3 (Operand.tmp 68)) 3 (v := ?_) ⟨_, rfl, rfl, rfl, rfl, rfl⟩ (by kernel_rfl) (by kernel_rfl) (by kernel_rfl) [13, 14, 15, 16, 17, 18, 19, 20] (by kernel_rfl) (fun _ _ _ h => h) hS (fun w' hSw => ?_) ?_
                    rotate_left
                    · obtain ⟨⟨b0, b1, b2⟩, b3, b4⟩ := hSw
                      unfold bareOp
                      go_simp
                      try with_reducible rfl
                    simp only [Act.put, List.setIfInBounds_toArray, List.set_cons_zero, List.set_cons_succ]
                    refine wpAnyB_takeP (i := 13) (some 70) (Op.convert 3 22 (Operand.tmp 69)) 22 (v := ?_) ⟨_, rfl, rfl, rfl, rfl, rfl⟩ (by kernel_rfl) (by kernel_rfl) (by kernel_rfl) (by kernel_rfl) (fun _ _ _ h => h) (fun _ => hS) (fun w' => ?_) ?_
                    rotate_left
                    · unfold bareOp
                      go_simp
                      try with_reducible rfl
                    simp only [Act.put, List.setIfInBounds_toArray, List.set_cons_zero, List.set_cons_succ]
                    refine wpAnyB_only (i := 14) (some 71) (Op.call { callee := Callee.value (Operand.func 70), args := #[Operand.tmp 58, Operand.tmp 63, Operand.tmp 70], argTypes := #[24, 22, 22] }) 22 ⟨_, rfl, rfl, rfl, rfl, rfl⟩ (by kernel_rfl) (fun K hK => ?_)
                    unfold bareOp
                    go_wp2_with (go_at_call 70; refine (sless_ok _ HH.out x0 xQ y0 yQ HDD.out).mono ?_; rintro e w8 ⟨rfl, hb8⟩)
                    replace F_g := Lib.hid (F_g.out.keep hb8)
                    replace F_c := Lib.hid (F_c.out.keep hb8)
                    replace HBW := Lib.hid (HBW.out.trans (hb8.mono HBW.out.size))
                    replace hS := And.intro F_g.out.s (And.intro ((HBW.out.cell (p := ⟨s, o + i, none⟩) hs).trans HCX.out) ((HBW.out.cell (p := ⟨s, o + d, none⟩) hs).trans HCY.out))
                    clear hb8
                    refine hK.out _ _ (fun _ => hS) ?_
                    clear hK K
                    try simp only [Act.put, List.setIfInBounds_toArray, List.set_cons_zero, List.set_cons_succ]
                    refine wpAnyB_only (i := 15) (some 72) (Op.call { callee := Callee.value (Operand.func 69), args := #[Operand.tmp 57, Operand.tmp 71], argTypes := #[24, 22] }) 39 ⟨_, rfl, rfl, rfl, rfl, rfl⟩ (by kernel_rfl) (fun K hK => ?_)
                    unfold bareOp
                    go_wp2_with (go_at_call 69; refine (invExp_ok P Q G dd u 0 true _ HH.out d0 dQ HU.out rfl).mono ?_; rintro e w8 ⟨rfl, hb8⟩)
                    replace F_g := Lib.hid (F_g.out.keep hb8)
                    replace F_c := Lib.hid (F_c.out.keep hb8)
                    replace HBW := Lib.hid (HBW.out.trans (hb8.mono HBW.out.size))
                    replace hS := And.intro F_g.out.s (And.intro ((HBW.out.cell (p := ⟨s, o + i, none⟩) hs).trans HCX.out) ((HBW.out.cell (p := ⟨s, o + d, none⟩) hs).trans HCY.out))
                    clear hb8
                    refine hK.out _ _ (fun _ => hS) ?_
                    clear hK K
                    try simp only [Act.put, List.setIfInBounds_toArray, List.set_cons_zero, List.set_cons_succ]
                    refine wpAnyB_takeP (i := 16) (some 56) (Op.move (Operand.tmp 72)) 39 (v := ?_) ⟨_, rfl, rfl, rfl, rfl, rfl⟩ (by kernel_rfl) (by kernel_rfl) (by kernel_rfl) (by kernel_rfl) (fun _ _ _ h => h) (fun _ => hS) (fun w' => ?_) ?_
                    rotate_left
                    · unfold bareOp
                      go_simp
                      try with_reducible rfl
                    simp only [Act.put, List.setIfInBounds_toArray, List.set_cons_zero, List.set_cons_succ]
                    refine wpAnyB_takeP (i := 17) (some 73) (Op.extract (Operand.tmp 56) 0) 22 (v := ?_) ⟨_, rfl, rfl, rfl, rfl, rfl⟩ (by kernel_rfl) (by kernel_rfl) (by kernel_rfl) (by kernel_rfl) (fun _ _ _ h => h) (fun _ => hS) (fun w' => ?_) ?_
                    rotate_left
                    · unfold bareOp
                      go_simp
                      try with_reducible rfl
                    simp only [Act.put, List.setIfInBounds_toArray, List.set_cons_zero, List.set_cons_succ]
                    refine wpAnyB_takeP (i := 18) (some 74) (Op.extract (Operand.tmp 56) 1) 30 (v := ?_) ⟨_, rfl, rfl, rfl, rfl, rfl⟩ (by kernel_rfl) (by kernel_rfl) (by kernel_rfl) (by kernel_rfl) (fun _ _ _ h => h) (fun _ => hS) (fun w' => ?_) ?_
                    rotate_left
                    · unfold bareOp
                      go_simp
                      try with_reducible rfl
                    simp only [Act.put, List.setIfInBounds_toArray, List.set_cons_zero, List.set_cons_succ]
                    refine wpAnyB_takeP (i := 19) (some 12) (Op.assign (Operand.tmp 73)) 22 (v := ?_) ⟨_, rfl, rfl, rfl, rfl, rfl⟩ (by kernel_rfl) (by kernel_rfl) (by kernel_rfl) (by kernel_rfl) (fun _ _ _ h => h) (fun _ => hS) (fun w' => ?_) ?_
                    rotate_left
                    · unfold bareOp
                      go_simp
                      try with_reducible rfl
                    simp only [Act.put, List.setIfInBounds_toArray, List.set_cons_zero, List.set_cons_succ]
                    refine wpAnyB_only (i := 20) (some 13) (Op.assign (Operand.tmp 74)) 30 ⟨_, rfl, rfl, rfl, rfl, rfl⟩ (by kernel_rfl) (fun K hK => ?_)
                    unfold bareOp
                    go_wp2_with fail
                    refine hK.out _ _ (fun h => absurd (h.symm.trans (by kernel_rfl : _ = true)) (by decide)) ?_
                    clear hK K
                    try simp only [Act.put, List.setIfInBounds_toArray, List.set_cons_zero, List.set_cons_succ]
                    refine wpAnyB_done (by kernel_rfl) ?_ _
                    clear hS
                    obtain ⟨ci, hci⟩ : ∃ z, cs.getD i 0 = z := ⟨_, rfl⟩
                    obtain ⟨ce, hce⟩ : ∃ z, cs.getD e 0 = z := ⟨_, rfl⟩
                    obtain ⟨ci0, ciQ⟩ := show 0 ≤ ci ∧ ci < Q by rw [← hci]; exact getD_rng (by omega) HD.out.rng i
                    obtain ⟨ce0, ceQ⟩ := show 0 ≤ ce ∧ ce < Q by rw [← hce]; exact getD_rng (by omega) HD.out.rng e
                    obtain ⟨t1, ht1⟩ : ∃ z, (ci - ce) % Q = z := ⟨_, rfl⟩
                    have t0 : 0 ≤ t1 := by rw [← ht1]; exact Int.emod_nonneg _ (by omega)
                    have tQ : t1 < Q := by rw [← ht1]; exact Int.emod_lt_of_pos _ (by omega)
                    obtain ⟨t2, ht2⟩ : ∃ z, t1 * u % Q = z := ⟨_, rfl⟩
                    have HCI := Lib.hid hci
                    have HCE := Lib.hid hce
                    have HT1 := Lib.hid ht1
                    have HT2 := Lib.hid ht2
                    have HST := Lib.hid (show DifS Q ids vs k e (cs.set i t2) by
                      have := HD.out.step (by omega) k1 hge (by rw [← HL1.out]; exact hin) (u := u) (by rw [HXY.out]; exact HI.out)
                      rwa [HE.out, hci, hce, ht1, ht2] at this)
                    clear hci hce ht1 ht2
                    go_wp2_with fail
                    replace F_g := Lib.hid F_g.out.drew
                    replace F_c := Lib.hid F_c.out.drew
                    replace HBW := Lib.hid HBW.out.drew
                    have hS := And.intro F_g.out.s (And.intro ((F_c.out.at hin).trans (congrArg (fun z => some (Value.int IntKind.u64 z)) HCI.out)) ((F_c.out.at hen).trans (congrArg (fun z => some (Value.int IntKind.u64 z)) HCE.out)))
                    refine wp_region_stage 17 (fun w' => SBox w' w.heap.size P Q G ∧ w'.cell? ⟨gc, i, none⟩ = some (.int .u64 ci) ∧ w'.cell? ⟨gc, e, none⟩ = some (.int .u64 ce)) (by kernel_rfl) ?_
                    refine wpAnyB_takeP (i := 0) (some 78) (Op.move (Operand.tmp 9)) 25 (v := ?_) ⟨_, rfl, rfl, rfl, rfl, rfl⟩ (by kernel_rfl) (by kernel_rfl) (by kernel_rfl) (by kernel_rfl) (fun _ _ _ h => h) (fun _ => hS) (fun w' => ?_) ?_
                    rotate_left
                    · unfold bareOp
                      go_simp
                      try with_reducible rfl
                    simp only [Act.put, List.setIfInBounds_toArray, List.set_cons_zero, List.set_cons_succ]
                    refine wpAnyB_takeP (i := 1) (some 79) (Op.move (Operand.tmp 11)) 3 (v := ?_) ⟨_, rfl, rfl, rfl, rfl, rfl⟩ (by kernel_rfl) (by kernel_rfl) (by kernel_rfl) (by kernel_rfl) (fun _ _ _ h => h) (fun _ => hS) (fun w' => ?_) ?_
                    rotate_left
                    · unfold bareOp
                      go_simp
                      try with_reducible rfl
                    simp only [Act.put, List.setIfInBounds_toArray, List.set_cons_zero, List.set_cons_succ]
                    refine wpAnyB_take (i := 2) (some 80) (Op.load 24 (Operand.tmp 3)) 24 (v := ?_) ⟨_, rfl, rfl, rfl, rfl, rfl⟩ (by kernel_rfl) (by kernel_rfl) (by kernel_rfl) [15, 16, 17] (by kernel_rfl) (fun _ _ _ h => h) hS (fun w' hSw => ?_) ?_
                    rotate_left
                    · obtain ⟨⟨b0, b1, b2⟩, b3, b4⟩ := hSw
                      unfold bareOp
                      go_simp
                      try with_reducible rfl
                    simp only [Act.put, List.setIfInBounds_toArray, List.set_cons_zero, List.set_cons_succ]
                    refine wpAnyB_take (i := 3) (some 81) (Op.load 24 (Operand.tmp 3)) 24 (v := ?_) ⟨_, rfl, rfl, rfl, rfl, rfl⟩ (by kernel_rfl) (by kernel_rfl) (by kernel_rfl) [13, 15, 16, 17] (by kernel_rfl) (fun _ _ _ h => h) hS (fun w' hSw => ?_) ?_
                    rotate_left
                    · obtain ⟨⟨b0, b1, b2⟩, b3, b4⟩ := hSw
                      unfold bareOp
                      go_simp
                      try with_reducible rfl
                    simp only [Act.put, List.setIfInBounds_toArray, List.set_cons_zero, List.set_cons_succ]
                    refine wpAnyB_takeP (i := 4) (some 82) (Op.move (Operand.tmp 9)) 25 (v := ?_) ⟨_, rfl, rfl, rfl, rfl, rfl⟩ (by kernel_rfl) (by kernel_rfl) (by kernel_rfl) (by kernel_rfl) (fun _ _ _ h => h) (fun _ => hS) (fun w' => ?_) ?_
                    rotate_left
                    · unfold bareOp
                      go_simp
                      try with_reducible rfl
                    simp only [Act.put, List.setIfInBounds_toArray, List.set_cons_zero, List.set_cons_succ]
                    refine wpAnyB_takeP (i := 5) (some 83) (Op.move (Operand.tmp 11)) 3 (v := ?_) ⟨_, rfl, rfl, rfl, rfl, rfl⟩ (by kernel_rfl) (by kernel_rfl) (by kernel_rfl) (by kernel_rfl) (fun _ _ _ h => h) (fun _ => hS) (fun w' => ?_) ?_
                    rotate_left
                    · unfold bareOp
                      go_simp
                      try with_reducible rfl
                    simp only [Act.put, List.setIfInBounds_toArray, List.set_cons_zero, List.set_cons_succ]
                    refine wpAnyB_takeP (i := 6) (some 84) (Op.indexAddr 25 (Operand.tmp 82) (Operand.tmp 83)) 0 (v := ?_) ⟨_, rfl, rfl, rfl, rfl, rfl⟩ (by kernel_rfl) (by kernel_rfl) (by kernel_rfl) (by kernel_rfl) (fun _ _ _ h => h) (fun _ => hS) (fun w' => ?_) ?_
                    rotate_left
                    · unfold bareOp
                      go_simp
                      try with_reducible rfl
                    simp only [Act.put, List.setIfInBounds_toArray, List.set_cons_zero, List.set_cons_succ]
                    refine wpAnyB_take (i := 7) (some 85) (Op.load 22 (Operand.tmp 84)) 22 (v := ?_) ⟨_, rfl, rfl, rfl, rfl, rfl⟩ (by kernel_rfl) (by kernel_rfl) (by kernel_rfl) [13, 15, 16, 17] (by kernel_rfl) (fun _ _ _ h => h) hS (fun w' hSw => ?_) ?_
                    rotate_left
                    · obtain ⟨⟨b0, b1, b2⟩, b3, b4⟩ := hSw
                      unfold bareOp
                      go_simp
                      try with_reducible rfl
                    simp only [Act.put, List.setIfInBounds_toArray, List.set_cons_zero, List.set_cons_succ]
                    refine wpAnyB_takeP (i := 8) (some 86) (Op.move (Operand.tmp 9)) 25 (v := ?_) ⟨_, rfl, rfl, rfl, rfl, rfl⟩ (by kernel_rfl) (by kernel_rfl) (by kernel_rfl) (by kernel_rfl) (fun _ _ _ h => h) (fun _ => hS) (fun w' => ?_) ?_
                    rotate_left
                    · unfold bareOp
                      go_simp
                      try with_reducible rfl
                    simp only [Act.put, List.setIfInBounds_toArray, List.set_cons_zero, List.set_cons_succ]
                    refine wpAnyB_takeP (i := 9) (some 87) (Op.move (Operand.tmp 11)) 3 (v := ?_) ⟨_, rfl, rfl, rfl, rfl, rfl⟩ (by kernel_rfl) (by kernel_rfl) (by kernel_rfl) (by kernel_rfl) (fun _ _ _ h => h) (fun _ => hS) (fun w' => ?_) ?_
                    rotate_left
                    · unfold bareOp
                      go_simp
                      try with_reducible rfl
                    simp only [Act.put, List.setIfInBounds_toArray, List.set_cons_zero, List.set_cons_succ]
                    refine wpAnyB_takeP (i := 10) (some 88) (Op.binOp BinOp.sub 3 (Operand.tmp 87) (Operand.const (Value.int IntKind.i64 1)) 3) 3 (v := ?_) ⟨_, rfl, rfl, rfl, rfl, rfl⟩ (by kernel_rfl) (by kernel_rfl) (by kernel_rfl) (by kernel_rfl) (fun _ _ _ h => h) (fun _ => hS) (fun w' => ?_) ?_
                    rotate_left
                    · unfold bareOp
                      go_simp
                      try with_reducible rfl
                    simp only [Act.put, List.setIfInBounds_toArray, List.set_cons_zero, List.set_cons_succ]
                    refine wpAnyB_takeP (i := 11) (some 89) (Op.indexAddr 25 (Operand.tmp 86) (Operand.tmp 88)) 0 (v := ?_) ⟨_, rfl, rfl, rfl, rfl, rfl⟩ (by kernel_rfl) (by kernel_rfl) (by kernel_rfl) (by kernel_rfl) (fun _ _ _ h => h) (fun _ => hS) (fun w' => ?_) ?_
                    rotate_left
                    · unfold bareOp
                      go_simp
                      try with_reducible rfl
                    simp only [Act.put, List.setIfInBounds_toArray, List.set_cons_zero, List.set_cons_succ]
                    refine wpAnyB_take (i := 12) (some 90) (Op.load 22 (Operand.tmp 89)) 22 (v := ?_) ⟨_, rfl, rfl, rfl, rfl, rfl⟩ (by kernel_rfl) (by kernel_rfl) (by kernel_rfl) [13, 15, 16, 17] (by kernel_rfl) (fun _ _ _ h => h) hS (fun w' hSw => ?_) ?_
                    rotate_left
                    · obtain ⟨⟨b0, b1, b2⟩, b3, b4⟩ := hSw
                      unfold bareOp
                      go_simp
                      try with_reducible rfl
                    simp only [Act.put, List.setIfInBounds_toArray, List.set_cons_zero, List.set_cons_succ]
                    refine wpAnyB_takeP (i := 14) (some 92) (Op.move (Operand.tmp 12)) 22 (v := ?_) ⟨_, rfl, rfl, rfl, rfl, rfl⟩ (by kernel_rfl) (by kernel_rfl) (by kernel_rfl) (by kernel_rfl) (fun _ _ _ h => h) (fun _ => hS) (fun w' => ?_) ?_
                    rotate_left
                    · unfold bareOp
                      go_simp
                      try with_reducible rfl
                    simp only [Act.put, List.setIfInBounds_toArray, List.set_cons_zero, List.set_cons_succ]
                    refine wpAnyB_only (i := 13) (some 91) (Op.call { callee := Callee.value (Operand.func 70), args := #[Operand.tmp 81, Operand.tmp 85, Operand.tmp 90], argTypes := #[24, 22, 22] }) 22 ⟨_, rfl, rfl, rfl, rfl, rfl⟩ (by kernel_rfl) (fun K hK => ?_)
                    unfold bareOp
                    go_wp2_with (go_at_call 70; refine (sless_ok _ HH.out ci0 ciQ ce0 ceQ HT1.out).mono ?_; rintro e w8 ⟨rfl, hb8⟩)
                    replace F_g := Lib.hid (F_g.out.keep hb8)
                    replace F_c := Lib.hid (F_c.out.keep hb8)
                    replace HBW := Lib.hid (HBW.out.trans (hb8.mono HBW.out.size))
                    replace hS := And.intro F_g.out.s (And.intro ((F_c.out.at hin).trans (congrArg (fun z => some (Value.int IntKind.u64 z)) HCI.out)) ((F_c.out.at hen).trans (congrArg (fun z => some (Value.int IntKind.u64 z)) HCE.out)))
                    clear hb8
                    refine hK.out _ _ (fun _ => hS) ?_
                    clear hK K
                    try simp only [Act.put, List.setIfInBounds_toArray, List.set_cons_zero, List.set_cons_succ]
                    refine wpAnyB_only (i := 15) (some 93) (Op.call { callee := Callee.value (Operand.func 71), args := #[Operand.tmp 80, Operand.tmp 91, Operand.tmp 92], argTypes := #[24, 22, 22] }) 22 ⟨_, rfl, rfl, rfl, rfl, rfl⟩ (by kernel_rfl) (fun K hK => ?_)
                    unfold bareOp
                    go_wp2_with (go_at_call 71; refine (stimes_ok _ HH.out t0 tQ u0 uQ HT2.out).mono ?_; rintro e w8 ⟨rfl, hb8⟩)
                    replace F_g := Lib.hid (F_g.out.keep hb8)
                    replace F_c := Lib.hid (F_c.out.keep hb8)
                    replace HBW := Lib.hid (HBW.out.trans (hb8.mono HBW.out.size))
                    replace hS := And.intro F_g.out.s (And.intro ((F_c.out.at hin).trans (congrArg (fun z => some (Value.int IntKind.u64 z)) HCI.out)) ((F_c.out.at hen).trans (congrArg (fun z => some (Value.int IntKind.u64 z)) HCE.out)))
                    clear hb8
                    refine hK.out _ _ (fun _ => hS) ?_
                    clear hK K
                    try simp only [Act.put, List.setIfInBounds_toArray, List.set_cons_zero, List.set_cons_succ]
                    refine wpAnyB_takeP (i := 16) (some 94) (Op.indexAddr 25 (Operand.tmp 78) (Operand.tmp 79)) 0 (v := ?_) ⟨_, rfl, rfl, rfl, rfl, rfl⟩ (by kernel_rfl) (by kernel_rfl) (by kernel_rfl) (by kernel_rfl) (fun _ _ _ h => h) (fun _ => hS) (fun w' => ?_) ?_
                    rotate_left
                    · unfold bareOp
                      go_simp
                      try with_reducible rfl
                    simp only [Act.put, List.setIfInBounds_toArray, List.set_cons_zero, List.set_cons_succ]
                    refine wpAnyB_only (i := 17) none (Op.store 22 (Operand.tmp 94) (Operand.tmp 93)) 0 ⟨_, rfl, rfl, rfl, rfl, rfl⟩ (by kernel_rfl) (fun K hK => ?_)
                    unfold bareOp
                    have hcs := hS.2.1
                    have hfs := F_c.out.fz i
                    go_wp2_with fail
                    refine hK.out _ _ (fun h => absurd (h.symm.trans (by kernel_rfl : _ = true)) (by decide)) ?_
                    clear hK K
                    try simp only [Act.put, List.setIfInBounds_toArray, List.set_cons_zero, List.set_cons_succ]
                    refine wpAnyB_done (by kernel_rfl) ?_ _
                    replace F_g := Lib.hid (F_g.out.far (c := gc) (o := i) (by omega) (.int .u64 t2))
                    replace F_c := Lib.hid (F_c.out.set (k := i) t2)
                    replace HBW := Lib.hid (HBW.out.setCell (p := ⟨gc, i, none⟩) (by show w.heap.size ≤ gc; omega) (.int .u64 t2))
                    clear hS
                    go_wp2_with fail
                    go_roundw
                    case rel => exact ⟨e, by have := HE.out; omega, hen, rfl, _, HST.out, F_c.out, F_g.out, HBW.out⟩
                    case measure => have := HE.out; simp [intOf]; omega
            case neg =>
              have hkn : (n : Int) ≤ (k : Int) := by omega
              obtain ⟨r, hr1, hr2, hr3, hr4⟩ := DifS.over (by omega) HND.out HLN.out (by rw [← HL1.out]; omega) (show DifS Q ids vs k (ids.length - 1) cs by rw [← HL1.out]; exact HD.out)
              obtain ⟨rfl, rfl⟩ := Prod.mk.inj (show (0, r) = (er, rs) by rw [← HW.out]; exact (tail_some hr1).symm)
              have HR2 := Lib.hid hr2
              have HR3 := Lib.hid hr3
              have HR4 := Lib.hid hr4
              have HCR := Lib.hid HD.out.rng
              clear hr1 hr2 hr3 hr4
              obtain ⟨i0, hi, hz0, hz1, hz2⟩ := info_parts (P := Try.prog) (e := 22) (z := .int .u64 0) (size := 1) (bytes := 8) (by kernel_rfl)
              have hgl := F_c.out.lt.2
              go_wp2_with (at_make; refine wpList_make_full _ rfl _ _ 25 rfl (w.heap.size + 1) 22 i0 (.int .u64 0) 1 Try.underlying25 hi hz0 hz1 _ _ _ _ n rfl rfl rfl rfl (by rw [hz2]; omega) (by unfold maxLen; omega) (Nat.succ_le_of_lt F_g.out.lt) ?_; intro w5 hown hgr; have HOWN := Lib.hid hown; have HGR := Lib.hid hgr; clear hown hgr)
              have hb5 := Below.row (n := wo.heap.size) HGR.out (fun j hj => by cases hj) (Nat.le_refl _)
              have hgo := F_g.out.lt
              have hne : gc ≠ wo.heap.size := by omega
              have F_o := Lib.hid (OwnN.made HOWN.out)
              replace F_c := Lib.hid (F_c.out.keep hb5)
              replace F_g := Lib.hid (F_g.out.keep hb5)
              replace HBW := Lib.hid (HBW.out.trans (hb5.mono HBW.out.size))
              clear hb5 HOWN HGR hi hz0 hz1 hz2 i0 HD
              go_loopw [15, 16] (fun c15 c16 wr => ∃ j : Nat, j ≤ n ∧ c15 = .int .i64 ((j : Int) - 1) ∧ ∃ os : List Int, Hid (OutS Q ids r j os) ∧ Hid (OwnN wr (w.heap.size + 1) wo.heap.size n n os) ∧ Hid (OwnN wr (w.heap.size + 1) gc n cap cs) ∧ Hid (Boxed wr w.heap.size P Q G) ∧ Hid (Below w.heap.size w wr)) (fun c15 _ _ => (intOf c15 + 1).toNat)
              case atStart => exact ⟨n, Nat.le_refl _, rfl, List.replicate n 0, (show OutS Q ids r n (List.replicate n 0) by rw [HL1.out]; exact OutS.start (by omega) HR2.out), F_o.out, F_c.out, F_g.out, HBW.out⟩
              case round =>
                clear F_g F_c F_o HBW
                obtain ⟨j, hj, hc15, os, HO, F_o, F_c, F_g, HBW⟩ := hrel
                by_cases hj0 : j = 0
                case pos =>
                  subst hj0
                  have hc16 := hc15.trans (show Value.int IntKind.i64 (((0 : Nat) : Int) - 1) = .int .i64 (-1) from rfl)
                  clear hc15
                  subst hc16
                  have HZ := Lib.hid (show OwnU _ w.heap.size (.slice (some ⟨wo.heap.size, 0, none⟩) n n) r by rw [← HO.out.done HR2.out HR3.out]; exact F_o.out.own.mono (Nat.le_succ _))
                  go_wp2_with fail
                  go_ret2
                  exact ⟨_, rfl, HZ.out, HBW.out⟩
                case neg =>
                  obtain ⟨i, rfl⟩ : ∃ i, j = i + 1 := ⟨j - 1, by omega⟩
                  have hc16 := hc15.trans (show Value.int IntKind.i64 (((i + 1 : Nat) : Int) - 1) = .int .i64 (i : Int) from congrArg _ (by omega))
                  clear hc15
                  subst hc16
                  have hin : i < n := by omega
                  have hi0 : (0 : Int) ≤ (i : Int) := by omega
                  have hi1 : (i : Int) < (n : Int) := by omega
                  have hwi : IntKind.i64.wrap ((i : Int) - 1) = (i : Int) - 1 := IntWalk.i64_in _ (by omega)
                  obtain ⟨x, hx⟩ : ∃ x, ids.getD i 0 = x := ⟨_, rfl⟩
                  have HCX := Lib.hid (show w.cell? ⟨s, o + i, none⟩ = some (.int .i64 x) by rw [← hx]; exact HC.out i hin)
                  obtain ⟨x0, xQ, x8⟩ := show 0 ≤ x ∧ x < Q ∧ x ≤ 8 by rw [← hx]; exact HBD.out i (by rw [← HL1.out]; exact hin)
                  have HXI := Lib.hid hx
                  clear hx hj0
                  go_wp2_with fail
                  go_loopw [16] (fun c16 wr => ∃ m : Nat, m < n ∧ c16 = .int .i64 m ∧ ∃ o2 : List Int, Hid (InB Q x n os m o2) ∧ Hid (OwnN wr (w.heap.size + 1) wo.heap.size n n o2) ∧ Hid (OwnN wr (w.heap.size + 1) gc n cap cs) ∧ Hid (Boxed wr w.heap.size P Q G) ∧ Hid (Below w.heap.size w wr)) (fun c16 _ => (intOf c16).toNat)
                  case atStart => exact ⟨n - 1, by omega, congrArg _ (by omega), os, InB.start (HO.out.1.trans HL1.out.symm), F_o.out, F_c.out, F_g.out, HBW.out⟩
                  case round =>
                    clear F_g F_c F_o HBW
                    obtain ⟨m, hmn, rfl, o2, HI, F_o, F_c, F_g, HBW⟩ := hrel
                    have HRG := Lib.hid (HI.out.rng (by omega) HO.out.2.1)
                    obtain ⟨q1, hq1⟩ : ∃ z, o2.getD m 0 = z := ⟨_, rfl⟩
                    obtain ⟨q10, q1Q⟩ := show 0 ≤ q1 ∧ q1 < Q by rw [← hq1]; exact HRG.out m
                    obtain ⟨t1, ht1⟩ : ∃ z, q1 * x % Q = z := ⟨_, rfl⟩
                    have t0 : 0 ≤ t1 := by rw [← ht1]; exact Int.emod_nonneg _ (by omega)
                    have tQ : t1 < Q := by rw [← ht1]; exact Int.emod_lt_of_pos _ (by omega)
                    have hm0 : (0 : Int) ≤ (m : Int) := by omega
                    have hm1' : (m : Int) < (n : Int) := by omega
                    by_cases hmz : m = 0
                    case pos =>
                      subst hmz
                      have hn0 : 0 < n := by omega
                      have hn0' : (0 : Int) < (n : Int) := by omega
                      obtain ⟨ci, hci⟩ : ∃ z, cs.getD i 0 = z := ⟨_, rfl⟩
                      obtain ⟨ci0, ciQ⟩ := show 0 ≤ ci ∧ ci < Q by rw [← hci]; exact getD_rng (by omega) HCR.out i
                      obtain ⟨t2, ht2⟩ : ∃ z, (0 - t1) % Q = z := ⟨_, rfl⟩
                      have t20 : 0 ≤ t2 := by rw [← ht2]; exact Int.emod_nonneg _ (by omega)
                      have t2Q : t2 < Q := by rw [← ht2]; exact Int.emod_lt_of_pos _ (by omega)
                      obtain ⟨t3, ht3⟩ : ∃ z, (ci + t2) % Q = z := ⟨_, rfl⟩
                      have HCI := Lib.hid hci
                      have HQ1 := Lib.hid hq1
                      have HT1 := Lib.hid ht1
                      have HT2 := Lib.hid ht2
                      have HT3 := Lib.hid ht3
                      have HST := Lib.hid (show OutS Q ids r i (o2.set 0 t3) by
                        have := InB.last (ci := ci) (by omega) (by rw [← HL1.out]; exact hin) HR2.out HO.out (by rw [← hci]; exact HR4.out i (by rw [← HL1.out]; exact hin)) (by rw [HXI.out, ← HL1.out]; exact HI.out)
                        rwa [HXI.out, hq1, ht1, ht2, ht3] at this)
                      clear hci hq1 ht1 ht2 ht3
                      go_wp2_with fail
                      replace F_g := Lib.hid F_g.out.drew
                      replace F_c := Lib.hid F_c.out.drew
                      replace F_o := Lib.hid F_o.out.drew
                      replace HBW := Lib.hid HBW.out.drew
                      have hS := And.intro F_g.out.s (And.intro ((F_c.out.at hin).trans (congrArg (fun z => some (Value.int IntKind.u64 z)) HCI.out)) (And.intro ((F_o.out.at hn0).trans (congrArg (fun z => some (Value.int IntKind.u64 z)) HQ1.out)) ((HBW.out.cell (p := ⟨s, o + i, none⟩) hs).trans HCX.out)))
                      refine wp_region_stage 20 (fun w' => SBox w' w.heap.size P Q G ∧ w'.cell? ⟨gc, i, none⟩ = some (.int .u64 ci) ∧ w'.cell? ⟨wo.heap.size, 0, none⟩ = some (.int .u64 q1) ∧ w'.cell? ⟨s, o + i, none⟩ = some (.int .i64 x)) (by kernel_rfl) ?_
                      refine wpAnyB_takeP (i := 0) (some 133) (Op.move (Operand.tmp 14)) 25 (v := ?_) ⟨_, rfl, rfl, rfl, rfl, rfl⟩ (by kernel_rfl) (by kernel_rfl) (by kernel_rfl) (by kernel_rfl) (fun _ _ _ h => h) (fun _ => hS) (fun w' => ?_) ?_
                      rotate_left
                      · unfold bareOp
                        go_simp
                        try with_reducible rfl
                      simp only [Act.put, List.setIfInBounds_toArray, List.set_cons_zero, List.set_cons_succ]
                      refine wpAnyB_take (i := 1) (some 134) (Op.load 24 (Operand.tmp 3)) 24 (v := ?_) ⟨_, rfl, rfl, rfl, rfl, rfl⟩ (by kernel_rfl) (by kernel_rfl) (by kernel_rfl) [18, 19, 20] (by kernel_rfl) (fun _ _ _ h => h) hS (fun w' hSw => ?_) ?_
                      rotate_left
                      · obtain ⟨⟨b0, b1, b2⟩, b3, b4, b5⟩ := hSw
                        unfold bareOp
                        go_simp
                        try with_reducible rfl
                      simp only [Act.put, List.setIfInBounds_toArray, List.set_cons_zero, List.set_cons_succ]
                      refine wpAnyB_takeP (i := 2) (some 135) (Op.move (Operand.tmp 9)) 25 (v := ?_) ⟨_, rfl, rfl, rfl, rfl, rfl⟩ (by kernel_rfl) (by kernel_rfl) (by kernel_rfl) (by kernel_rfl) (fun _ _ _ h => h) (fun _ => hS) (fun w' => ?_) ?_
                      rotate_left
                      · unfold bareOp
                        go_simp
                        try with_reducible rfl
                      simp only [Act.put, List.setIfInBounds_toArray, List.set_cons_zero, List.set_cons_succ]
                      refine wpAnyB_takeP (i := 3) (some 136) (Op.move (Operand.tmp 15)) 3 (v := ?_) ⟨_, rfl, rfl, rfl, rfl, rfl⟩ (by kernel_rfl) (by kernel_rfl) (by kernel_rfl) (by kernel_rfl) (fun _ _ _ h => h) (fun _ => hS) (fun w' => ?_) ?_
                      rotate_left
                      · unfold bareOp
                        go_simp
                        try with_reducible rfl
                      simp only [Act.put, List.setIfInBounds_toArray, List.set_cons_zero, List.set_cons_succ]
                      refine wpAnyB_takeP (i := 4) (some 137) (Op.indexAddr 25 (Operand.tmp 135) (Operand.tmp 136)) 0 (v := ?_) ⟨_, rfl, rfl, rfl, rfl, rfl⟩ (by kernel_rfl) (by kernel_rfl) (by kernel_rfl) (by kernel_rfl) (fun _ _ _ h => h) (fun _ => hS) (fun w' => ?_) ?_
                      rotate_left
                      · unfold bareOp
                        go_simp
                        try with_reducible rfl
                      simp only [Act.put, List.setIfInBounds_toArray, List.set_cons_zero, List.set_cons_succ]
                      refine wpAnyB_take (i := 5) (some 138) (Op.load 22 (Operand.tmp 137)) 22 (v := ?_) ⟨_, rfl, rfl, rfl, rfl, rfl⟩ (by kernel_rfl) (by kernel_rfl) (by kernel_rfl) [18, 19, 20] (by kernel_rfl) (fun _ _ _ h => h) hS (fun w' hSw => ?_) ?_
                      rotate_left
                      · obtain ⟨⟨b0, b1, b2⟩, b3, b4, b5⟩ := hSw
                        unfold bareOp
                        go_simp
                        try with_reducible rfl
                      simp only [Act.put, List.setIfInBounds_toArray, List.set_cons_zero, List.set_cons_succ]
                      refine wpAnyB_take (i := 6) (some 139) (Op.load 24 (Operand.tmp 3)) 24 (v := ?_) ⟨_, rfl, rfl, rfl, rfl, rfl⟩ (by kernel_rfl) (by kernel_rfl) (by kernel_rfl) [17, 18, 19, 20] (by kernel_rfl) (fun _ _ _ h => h) hS (fun w' hSw => ?_) ?_
                      rotate_left
                      · obtain ⟨⟨b0, b1, b2⟩, b3, b4, b5⟩ := hSw
                        unfold bareOp
                        go_simp
                        try with_reducible rfl
                      simp only [Act.put, List.setIfInBounds_toArray, List.set_cons_zero, List.set_cons_succ]
                      refine wpAnyB_take (i := 7) (some 140) (Op.load 24 (Operand.tmp 3)) 24 (v := ?_) ⟨_, rfl, rfl, rfl, rfl, rfl⟩ (by kernel_rfl) (by kernel_rfl) (by kernel_rfl) [16, 17, 18, 19, 20] (by kernel_rfl) (fun _ _ _ h => h) hS (fun w' hSw => ?_) ?_
                      rotate_left
                      · obtain ⟨⟨b0, b1, b2⟩, b3, b4, b5⟩ := hSw
                        unfold bareOp
                        go_simp
                        try with_reducible rfl
                      simp only [Act.put, List.setIfInBounds_toArray, List.set_cons_zero, List.set_cons_succ]
                      refine wpAnyB_takeP (i := 8) (some 141) (Op.move (Operand.tmp 14)) 25 (v := ?_) ⟨_, rfl, rfl, rfl, rfl, rfl⟩ (by kernel_rfl) (by kernel_rfl) (by kernel_rfl) (by kernel_rfl) (fun _ _ _ h => h) (fun _ => hS) (fun w' => ?_) ?_
                      rotate_left
                      · unfold bareOp
                        go_simp
                        try with_reducible rfl
                      simp only [Act.put, List.setIfInBounds_toArray, List.set_cons_zero, List.set_cons_succ]
                      refine wpAnyB_takeP (i := 9) (some 142) (Op.indexAddr 25 (Operand.tmp 141) (Operand.const (Value.int IntKind.i64 0))) 0 (v := ?_) ⟨_, rfl, rfl, rfl, rfl, rfl⟩ (by kernel_rfl) (by kernel_rfl) (by kernel_rfl) (by kernel_rfl) (fun _ _ _ h => h) (fun _ => hS) (fun w' => ?_) ?_
                      rotate_left
                      · unfold bareOp
                        go_simp
                        try with_reducible rfl
                      simp only [Act.put, List.setIfInBounds_toArray, List.set_cons_zero, List.set_cons_succ]
                      refine wpAnyB_take (i := 10) (some 143) (Op.load 22 (Operand.tmp 142)) 22 (v := ?_) ⟨_, rfl, rfl, rfl, rfl, rfl⟩ (by kernel_rfl) (by kernel_rfl) (by kernel_rfl) [16, 17, 18, 19, 20] (by kernel_rfl) (fun _ _ _ h => h) hS (fun w' hSw => ?_) ?_
                      rotate_left
                      · obtain ⟨⟨b0, b1, b2⟩, b3, b4, b5⟩ := hSw
                        unfold bareOp
                        go_simp
                        try with_reducible rfl
                      simp only [Act.put, List.setIfInBounds_toArray, List.set_cons_zero, List.set_cons_succ]
                      refine wpAnyB_takeP (i := 11) (some 144) (Op.move (Operand.tmp 1)) 51 (v := ?_) ⟨_, rfl, rfl, rfl, rfl, rfl⟩ (by kernel_rfl) (by kernel_rfl) (by kernel_rfl) (by kernel_rfl) (fun _ _ _ h => h) (fun _ => hS) (fun w' => ?_) ?_
                      rotate_left
                      · unfold bareOp
                        go_simp
                        try with_reducible rfl
                      simp only [Act.put, List.setIfInBounds_toArray, List.set_cons_zero, List.set_cons_succ]
                      refine wpAnyB_takeP (i := 12) (some 145) (Op.move (Operand.tmp 15)) 3 (v := ?_) ⟨_, rfl, rfl, rfl, rfl, rfl⟩ (by kernel_rfl) (by kernel_rfl) (by kernel_rfl) (by kernel_rfl) (fun _ _ _ h => h) (fun _ => hS) (fun w' => ?_) ?_
                      rotate_left
                      · unfold bareOp
                        go_simp
                        try with_reducible rfl
                      simp only [Act.put, List.setIfInBounds_toArray, List.set_cons_zero, List.set_cons_succ]
                      refine wpAnyB_takeP (i := 13) (some 146) (Op.indexAddr 51 (Operand.tmp 144) (Operand.tmp 145)) 0 (v := ?_) ⟨_, rfl, rfl, rfl, rfl, rfl⟩ (by kernel_rfl) (by kernel_rfl) (by kernel_rfl) (by kernel_rfl) (fun _ _ _ h => h) (fun _ => hS) (fun w' => ?_) ?_
                      rotate_left
                      · unfold bareOp
                        go_simp
                        try with_reducible rfl
                      simp only [Act.put, List.setIfInBounds_toArray, List.set_cons_zero, List.set_cons_succ]
                      refine wpAnyB_take (i := 14) (some 147) (Op.load 3 (Operand.tmp 146)) 3 (v := ?_) ⟨_, rfl, rfl, rfl, rfl, rfl⟩ (by kernel_rfl) (by kernel_rfl) (by kernel_rfl) [15, 16, 17, 18, 19, 20] (by kernel_rfl) (fun _ _ _ h => h) hS (fun w' hSw => ?_) ?_
                      rotate_left
                      · obtain ⟨⟨b0, b1, b2⟩, b3, b4, b5⟩ := hSw
                        unfold bareOp
                        go_simp
                        try with_reducible rfl
                      simp only [Act.put, List.setIfInBounds_toArray, List.set_cons_zero, List.set_cons_succ]
                      refine wpAnyB_takeP (i := 15) (some 148) (Op.convert 3 22 (Operand.tmp 147)) 22 (v := ?_) ⟨_, rfl, rfl, rfl, rfl, rfl⟩ (by kernel_rfl) (by kernel_rfl) (by kernel_rfl) (by kernel_rfl) (fun _ _ _ h => h) (fun _ => hS) (fun w' => ?_) ?_
                      rotate_left
                      · unfold bareOp
                        go_simp
                        try with_reducible rfl
                      simp only [Act.put, List.setIfInBounds_toArray, List.set_cons_zero, List.set_cons_succ]
                      refine wpAnyB_only (i := 16) (some 149) (Op.call { callee := Callee.value (Operand.func 71), args := #[Operand.tmp 140, Operand.tmp 143, Operand.tmp 148], argTypes := #[24, 22, 22] }) 22 ⟨_, rfl, rfl, rfl, rfl, rfl⟩ (by kernel_rfl) (fun K hK => ?_)
                      unfold bareOp
                      go_wp2_with (go_at_call 71; refine (stimes_ok _ HH.out q10 q1Q x0 xQ HT1.out).mono ?_; rintro e w8 ⟨rfl, hb8⟩)
                      replace F_g := Lib.hid (F_g.out.keep hb8)
                      replace F_c := Lib.hid (F_c.out.keep hb8)
                      replace F_o := Lib.hid (F_o.out.keep hb8)
                      replace HBW := Lib.hid (HBW.out.trans (hb8.mono HBW.out.size))
                      replace hS := And.intro F_g.out.s (And.intro ((F_c.out.at hin).trans (congrArg (fun z => some (Value.int IntKind.u64 z)) HCI.out)) (And.intro ((F_o.out.at hn0).trans (congrArg (fun z => some (Value.int IntKind.u64 z)) HQ1.out)) ((HBW.out.cell (p := ⟨s, o + i, none⟩) hs).trans HCX.out)))
                      clear hb8
                      refine hK.out _ _ (fun _ => hS) ?_
                      clear hK K
                      try simp only [Act.put, List.setIfInBounds_toArray, List.set_cons_zero, List.set_cons_succ]
                      refine wpAnyB_only (i := 17) (some 150) (Op.call { callee := Callee.value (Operand.func 70), args := #[Operand.tmp 139, Operand.const (Value.int IntKind.u64 0), Operand.tmp 149], argTypes := #[24, 22, 22] }) 22 ⟨_, rfl, rfl, rfl, rfl, rfl⟩ (by kernel_rfl) (fun K hK => ?_)
                      unfold bareOp
                      go_wp2_with (go_at_call 70; refine (sless_ok _ HH.out (Int.le_refl _) (by omega) t0 tQ HT2.out).mono ?_; rintro e w8 ⟨rfl, hb8⟩)
                      replace F_g := Lib.hid (F_g.out.keep hb8)
                      replace F_c := Lib.hid (F_c.out.keep hb8)
                      replace F_o := Lib.hid (F_o.out.keep hb8)
                      replace HBW := Lib.hid (HBW.out.trans (hb8.mono HBW.out.size))
                      replace hS := And.intro F_g.out.s (And.intro ((F_c.out.at hin).trans (congrArg (fun z => some (Value.int IntKind.u64 z)) HCI.out)) (And.intro ((F_o.out.at hn0).trans (congrArg (fun z => some (Value.int IntKind.u64 z)) HQ1.out)) ((HBW.out.cell (p := ⟨s, o + i, none⟩) hs).trans HCX.out)))
                      clear hb8
                      refine hK.out _ _ (fun _ => hS) ?_
                      clear hK K
                      try simp only [Act.put, List.setIfInBounds_toArray, List.set_cons_zero, List.set_cons_succ]
                      refine wpAnyB_only (i := 18) (some 151) (Op.call { callee := Callee.value (Operand.func 53), args := #[Operand.tmp 134, Operand.tmp 138, Operand.tmp 150], argTypes := #[24, 22, 22] }) 22 ⟨_, rfl, rfl, rfl, rfl, rfl⟩ (by kernel_rfl) (fun K hK => ?_)
                      unfold bareOp
                      go_wp2_with (go_at_call 53; refine (splus_ok _ HH.out ci0 ciQ t20 t2Q HT3.out).mono ?_; rintro e w8 ⟨rfl, hb8⟩)
                      replace F_g := Lib.hid (F_g.out.keep hb8)
                      replace F_c := Lib.hid (F_c.out.keep hb8)
                      replace F_o := Lib.hid (F_o.out.keep hb8)
                      replace HBW := Lib.hid (HBW.out.trans (hb8.mono HBW.out.size))
                      replace hS := And.intro F_g.out.s (And.intro ((F_c.out.at hin).trans (congrArg (fun z => some (Value.int IntKind.u64 z)) HCI.out)) (And.intro ((F_o.out.at hn0).trans (congrArg (fun z => some (Value.int IntKind.u64 z)) HQ1.out)) ((HBW.out.cell (p := ⟨s, o + i, none⟩) hs).trans HCX.out)))
                      clear hb8
                      refine hK.out _ _ (fun _ => hS) ?_
                      clear hK K
                      try simp only [Act.put, List.setIfInBounds_toArray, List.set_cons_zero, List.set_cons_succ]
                      refine wpAnyB_takeP (i := 19) (some 152) (Op.indexAddr 25 (Operand.tmp 133) (Operand.const (Value.int IntKind.i64 0))) 0 (v := ?_) ⟨_, rfl, rfl, rfl, rfl, rfl⟩ (by kernel_rfl) (by kernel_rfl) (by kernel_rfl) (by kernel_rfl) (fun _ _ _ h => h) (fun _ => hS) (fun w' => ?_) ?_
                      rotate_left
                      · unfold bareOp
                        go_simp
                        try with_reducible rfl
                      simp only [Act.put, List.setIfInBounds_toArray, List.set_cons_zero, List.set_cons_succ]
                      refine wpAnyB_only (i := 20) none (Op.store 22 (Operand.tmp 152) (Operand.tmp 151)) 0 ⟨_, rfl, rfl, rfl, rfl, rfl⟩ (by kernel_rfl) (fun K hK => ?_)
                      unfold bareOp
                      have hcs := hS.2.2.1
                      have hfs := F_o.out.fz 0
                      go_wp2_with fail
                      refine hK.out _ _ (fun h => absurd (h.symm.trans (by kernel_rfl : _ = true)) (by decide)) ?_
                      clear hK K
                      try simp only [Act.put, List.setIfInBounds_toArray, List.set_cons_zero, List.set_cons_succ]
                      refine wpAnyB_done (by kernel_rfl) ?_ _
                      replace F_g := Lib.hid (F_g.out.far (c := wo.heap.size) (o := 0) (by omega) (.int .u64 t3))
                      replace F_o := Lib.hid (F_o.out.set (k := 0) t3)
                      replace F_c := Lib.hid (F_c.out.far (b := wo.heap.size) (o := 0) (Ne.symm hne) (.int .u64 t3))
                      replace HBW := Lib.hid (HBW.out.setCell (p := ⟨wo.heap.size, 0, none⟩) (by show w.heap.size ≤ wo.heap.size; omega) (.int .u64 t3))
                      clear hS
                      go_wp2_with fail
                      go_roundw
                      case rel => exact ⟨i, by omega, rfl, _, HST.out, F_o.out, F_c.out, F_g.out, HBW.out⟩
                      case measure => simp [intOf] <;> omega
                    case neg =>
                      have hmz' : (0 : Int) < (m : Int) := by omega
                      have hmz2 : 0 < m := by omega
                      obtain ⟨e, he⟩ : ∃ e, m - 1 = e := ⟨_, rfl⟩
                      have hen : e < n := by omega
                      have he0 : (0 : Int) ≤ (e : Int) := by omega
                      have he1 : (e : Int) < (n : Int) := by omega
                      have hwe : IntKind.i64.wrap ((m : Int) - 1) = (e : Int) := by rw [IntWalk.i64_in _ (by omega)]; omega
                      obtain ⟨p1, hp1⟩ : ∃ z, o2.getD e 0 = z := ⟨_, rfl⟩
                      obtain ⟨p10, p1Q⟩ := show 0 ≤ p1 ∧ p1 < Q by rw [← hp1]; exact HRG.out e
                      obtain ⟨t2, ht2⟩ : ∃ z, (p1 - t1) % Q = z := ⟨_, rfl⟩
                      have HP1 := Lib.hid hp1
                      have HQ1 := Lib.hid hq1
                      have HT1 := Lib.hid ht1
                      have HT2 := Lib.hid ht2
                      have HE := Lib.hid he
                      have HST := Lib.hid (show InB Q x n os e (o2.set m t2) by
                        have := HI.out.step (by omega) hmn
                        rwa [he, hp1, hq1, ht1, ht2] at this)
                      clear hp1 hq1 ht1 ht2 he
                      go_wp2_with fail
                      replace F_g := Lib.hid F_g.out.drew
                      replace F_c := Lib.hid F_c.out.drew
                      replace F_o := Lib.hid F_o.out.drew
                      replace HBW := Lib.hid HBW.out.drew
                      have hS := And.intro F_g.out.s (And.intro ((F_o.out.at hen).trans (congrArg (fun z => some (Value.int IntKind.u64 z)) HP1.out)) (And.intro ((F_o.out.at hmn).trans (congrArg (fun z => some (Value.int IntKind.u64 z)) HQ1.out)) ((HBW.out.cell (p := ⟨s, o + i, none⟩) hs).trans HCX.out)))
                      refine wp_region_stage 21 (fun w' => SBox w' w.heap.size P Q G ∧ w'.cell? ⟨wo.heap.size, e, none⟩ = some (.int .u64 p1) ∧ w'.cell? ⟨wo.heap.size, m, none⟩ = some (.int .u64 q1) ∧ w'.cell? ⟨s, o + i, none⟩ = some (.int .i64 x)) (by kernel_rfl) ?_
                      refine wpAnyB_takeP (i := 0) (some 112) (Op.move (Operand.tmp 14)) 25 (v := ?_) ⟨_, rfl, rfl, rfl, rfl, rfl⟩ (by kernel_rfl) (by kernel_rfl) (by kernel_rfl) (by kernel_rfl) (fun _ _ _ h => h) (fun _ => hS) (fun w' => ?_) ?_
                      rotate_left
                      · unfold bareOp
                        go_simp
                        try with_reducible rfl
                      simp only [Act.put, List.setIfInBounds_toArray, List.set_cons_zero, List.set_cons_succ]
                      refine wpAnyB_takeP (i := 1) (some 113) (Op.move (Operand.tmp 16)) 3 (v := ?_) ⟨_, rfl, rfl, rfl, rfl, rfl⟩ (by kernel_rfl) (by kernel_rfl) (by kernel_rfl) (by kernel_rfl) (fun _ _ _ h => h) (fun _ => hS) (fun w' => ?_) ?_
                      rotate_left
                      · unfold bareOp
                        go_simp
                        try with_reducible rfl
                      simp only [Act.put, List.setIfInBounds_toArray, List.set_cons_zero, List.set_cons_succ]
                      refine wpAnyB_take (i := 2) (some 114) (Op.load 24 (Operand.tmp 3)) 24 (v := ?_) ⟨_, rfl, rfl, rfl, rfl, rfl⟩ (by kernel_rfl) (by kernel_rfl) (by kernel_rfl) [19, 20, 21] (by kernel_rfl) (fun _ _ _ h => h) hS (fun w' hSw => ?_) ?_
                      rotate_left
                      · obtain ⟨⟨b0, b1, b2⟩, b3, b4, b5⟩ := hSw
                        unfold bareOp
                        go_simp
                        try with_reducible rfl
                      simp only [Act.put, List.setIfInBounds_toArray, List.set_cons_zero, List.set_cons_succ]
                      refine wpAnyB_takeP (i := 3) (some 115) (Op.move (Operand.tmp 14)) 25 (v := ?_) ⟨_, rfl, rfl, rfl, rfl, rfl⟩ (by kernel_rfl) (by kernel_rfl) (by kernel_rfl) (by kernel_rfl) (fun _ _ _ h => h) (fun _ => hS) (fun w' => ?_) ?_
                      rotate_left
                      · unfold bareOp
                        go_simp
                        try with_reducible rfl
                      simp only [Act.put, List.setIfInBounds_toArray, List.set_cons_zero, List.set_cons_succ]
                      refine wpAnyB_takeP (i := 4) (some 116) (Op.move (Operand.tmp 16)) 3 (v := ?_) ⟨_, rfl, rfl, rfl, rfl, rfl⟩ (by kernel_rfl) (by kernel_rfl) (by kernel_rfl) (by kernel_rfl) (fun _ _ _ h => h) (fun _ => hS) (fun w' => ?_) ?_
                      rotate_left
                      · unfold bareOp
                        go_simp
                        try with_reducible rfl
                      simp only [Act.put, List.setIfInBounds_toArray, List.set_cons_zero, List.set_cons_succ]
                      refine wpAnyB_takeP (i := 5) (some 117) (Op.binOp BinOp.sub 3 (Operand.tmp 116) (Operand.const (Value.int IntKind.i64 1)) 3) 3 (v := ?_) ⟨_, rfl, rfl, rfl, rfl, rfl⟩ (by kernel_rfl) (by kernel_rfl) (by kernel_rfl) (by kernel_rfl) (fun _ _ _ h => h) (fun _ => hS) (fun w' => ?_) ?_
                      rotate_left
                      · unfold bareOp
                        go_simp
                        try with_reducible rfl
                      simp only [Act.put, List.setIfInBounds_toArray, List.set_cons_zero, List.set_cons_succ]
                      refine wpAnyB_takeP (i := 6) (some 118) (Op.indexAddr 25 (Operand.tmp 115) (Operand.tmp 117)) 0 (v := ?_) ⟨_, rfl, rfl, rfl, rfl, rfl⟩ (by kernel_rfl) (by kernel_rfl) (by kernel_rfl) (by kernel_rfl) (fun _ _ _ h => h) (fun _ => hS) (fun w' => ?_) ?_
                      rotate_left
                      · unfold bareOp
                        go_simp
                        try with_reducible rfl
                      simp only [Act.put, List.setIfInBounds_toArray, List.set_cons_zero, List.set_cons_succ]
                      refine wpAnyB_take (i := 7) (some 119) (Op.load 22 (Operand.tmp 118)) 22 (v := ?_) ⟨_, rfl, rfl, rfl, rfl, rfl⟩ (by kernel_rfl) (by kernel_rfl) (by kernel_rfl) [19, 20, 21] (by kernel_rfl) (fun _ _ _ h => h) hS (fun w' hSw => ?_) ?_
                      rotate_left
                      · obtain ⟨⟨b0, b1, b2⟩, b3, b4, b5⟩ := hSw
                        unfold bareOp
                        go_simp
                        try with_reducible rfl
                      simp only [Act.put, List.setIfInBounds_toArray, List.set_cons_zero, List.set_cons_succ]
                      refine wpAnyB_take (i := 8) (some 120) (Op.load 24 (Operand.tmp 3)) 24 (v := ?_) ⟨_, rfl, rfl, rfl, rfl, rfl⟩ (by kernel_rfl) (by kernel_rfl) (by kernel_rfl) [18, 19, 20, 21] (by kernel_rfl) (fun _ _ _ h => h) hS (fun w' hSw => ?_) ?_
                      rotate_left
                      · obtain ⟨⟨b0, b1, b2⟩, b3, b4, b5⟩ := hSw
                        unfold bareOp
                        go_simp
                        try with_reducible rfl
                      simp only [Act.put, List.setIfInBounds_toArray, List.set_cons_zero, List.set_cons_succ]
                      refine wpAnyB_takeP (i := 9) (some 121) (Op.move (Operand.tmp 14)) 25 (v := ?_) ⟨_, rfl, rfl, rfl, rfl, rfl⟩ (by kernel_rfl) (by kernel_rfl) (by kernel_rfl) (by kernel_rfl) (fun _ _ _ h => h) (fun _ => hS) (fun w' => ?_) ?_
                      rotate_left
                      · unfold bareOp
                        go_simp
                        try with_reducible rfl
                      simp only [Act.put, List.setIfInBounds_toArray, List.set_cons_zero, List.set_cons_succ]
                      refine wpAnyB_takeP (i := 10) (some 122) (Op.move (Operand.tmp 16)) 3 (v := ?_) ⟨_, rfl, rfl, rfl, rfl, rfl⟩ (by kernel_rfl) (by kernel_rfl) (by kernel_rfl) (by kernel_rfl) (fun _ _ _ h => h) (fun _ => hS) (fun w' => ?_) ?_
                      rotate_left
                      · unfold bareOp
                        go_simp
                        try with_reducible rfl
                      simp only [Act.put, List.setIfInBounds_toArray, List.set_cons_zero, List.set_cons_succ]
                      refine wpAnyB_takeP (i := 11) (some 123) (Op.indexAddr 25 (Operand.tmp 121) (Operand.tmp 122)) 0 (v := ?_) ⟨_, rfl, rfl, rfl, rfl, rfl⟩ (by kernel_rfl) (by kernel_rfl) (by kernel_rfl) (by kernel_rfl) (fun _ _ _ h => h) (fun _ => hS) (fun w' => ?_) ?_
                      rotate_left
                      · unfold bareOp
                        go_simp
                        try with_reducible rfl
                      simp only [Act.put, List.setIfInBounds_toArray, List.set_cons_zero, List.set_cons_succ]
                      refine wpAnyB_take (i := 12) (some 124) (Op.load 22 (Operand.tmp 123)) 22 (v := ?_) ⟨_, rfl, rfl, rfl, rfl, rfl⟩ (by kernel_rfl) (by kernel_rfl) (by kernel_rfl) [18, 19, 20, 21] (by kernel_rfl) (fun _ _ _ h => h) hS (fun w' hSw => ?_) ?_
                      rotate_left
                      · obtain ⟨⟨b0, b1, b2⟩, b3, b4, b5⟩ := hSw
                        unfold bareOp
                        go_simp
                        try with_reducible rfl
                      simp only [Act.put, List.setIfInBounds_toArray, List.set_cons_zero, List.set_cons_succ]
                      refine wpAnyB_takeP (i := 13) (some 125) (Op.move (Operand.tmp 1)) 51 (v := ?_) ⟨_, rfl, rfl, rfl, rfl, rfl⟩ (by kernel_rfl) (by kernel_rfl) (by kernel_rfl) (by kernel_rfl) (fun _ _ _ h => h) (fun _ => hS) (fun w' => ?_) ?_
                      rotate_left
                      · unfold bareOp
                        go_simp
                        try with_reducible rfl
                      simp only [Act.put, List.setIfInBounds_toArray, List.set_cons_zero, List.set_cons_succ]
                      refine wpAnyB_takeP (i := 14) (some 126) (Op.move (Operand.tmp 15)) 3 (v := ?_) ⟨_, rfl, rfl, rfl, rfl, rfl⟩ (by kernel_rfl) (by kernel_rfl) (by kernel_rfl) (by kernel_rfl) (fun _ _ _ h => h) (fun _ => hS) (fun w' => ?_) ?_
                      rotate_left
                      · unfold bareOp
                        go_simp
                        try with_reducible rfl
                      simp only [Act.put, List.setIfInBounds_toArray, List.set_cons_zero, List.set_cons_succ]
                      refine wpAnyB_takeP (i := 15) (some 127) (Op.indexAddr 51 (Operand.tmp 125) (Operand.tmp 126)) 0 (v := ?_) ⟨_, rfl, rfl, rfl, rfl, rfl⟩ (by kernel_rfl) (by kernel_rfl) (by kernel_rfl) (by kernel_rfl) (fun _ _ _ h => h) (fun _ => hS) (fun w' => ?_) ?_
                      rotate_left
                      · unfold bareOp
                        go_simp
                        try with_reducible rfl
                      simp only [Act.put, List.setIfInBounds_toArray, List.set_cons_zero, List.set_cons_succ]
                      refine wpAnyB_take (i := 16) (some 128) (Op.load 3 (Operand.tmp 127)) 3 (v := ?_) ⟨_, rfl, rfl, rfl, rfl, rfl⟩ (by kernel_rfl) (by kernel_rfl) (by kernel_rfl) [17, 18, 19, 20, 21] (by kernel_rfl) (fun _ _ _ h => h) hS (fun w' hSw => ?_) ?_
                      rotate_left
                      · obtain ⟨⟨b0, b1, b2⟩, b3, b4, b5⟩ := hSw
                        unfold bareOp
                        go_simp
                        try with_reducible rfl
                      simp only [Act.put, List.setIfInBounds_toArray, List.set_cons_zero, List.set_cons_succ]
                      refine wpAnyB_takeP (i := 17) (some 129) (Op.convert 3 22 (Operand.tmp 128)) 22 (v := ?_) ⟨_, rfl, rfl, rfl, rfl, rfl⟩ (by kernel_rfl) (by kernel_rfl) (by kernel_rfl) (by kernel_rfl) (fun _ _ _ h => h) (fun _ => hS) (fun w' => ?_) ?_
                      rotate_left
                      · unfold bareOp
                        go_simp
                        try with_reducible rfl
                      simp only [Act.put, List.setIfInBounds_toArray, List.set_cons_zero, List.set_cons_succ]
                      refine wpAnyB_only (i := 18) (some 130) (Op.call { callee := Callee.value (Operand.func 71), args := #[Operand.tmp 120, Operand.tmp 124, Operand.tmp 129], argTypes := #[24, 22, 22] }) 22 ⟨_, rfl, rfl, rfl, rfl, rfl⟩ (by kernel_rfl) (fun K hK => ?_)
                      unfold bareOp
                      go_wp2_with (go_at_call 71; refine (stimes_ok _ HH.out q10 q1Q x0 xQ HT1.out).mono ?_; rintro e w8 ⟨rfl, hb8⟩)
                      replace F_g := Lib.hid (F_g.out.keep hb8)
                      replace F_c := Lib.hid (F_c.out.keep hb8)
                      replace F_o := Lib.hid (F_o.out.keep hb8)
                      replace HBW := Lib.hid (HBW.out.trans (hb8.mono HBW.out.size))
                      replace hS := And.intro F_g.out.s (And.intro ((F_o.out.at hen).trans (congrArg (fun z => some (Value.int IntKind.u64 z)) HP1.out)) (And.intro ((F_o.out.at hmn).trans (congrArg (fun z => some (Value.int IntKind.u64 z)) HQ1.out)) ((HBW.out.cell (p := ⟨s, o + i, none⟩) hs).trans HCX.out)))
                      clear hb8
                      refine hK.out _ _ (fun _ => hS) ?_
                      clear hK K
                      try simp only [Act.put, List.setIfInBounds_toArray, List.set_cons_zero, List.set_cons_succ]
                      refine wpAnyB_only (i := 19) (some 131) (Op.call { callee := Callee.value (Operand.func 70), args := #[Operand.tmp 114, Operand.tmp 119, Operand.tmp 130], argTypes := #[24, 22, 22] }) 22 ⟨_, rfl, rfl, rfl, rfl, rfl⟩ (by kernel_rfl) (fun K hK => ?_)
                      unfold bareOp
                      go_wp2_with (go_at_call 70; refine (sless_ok _ HH.out p10 p1Q t0 tQ HT2.out).mono ?_; rintro e w8 ⟨rfl, hb8⟩)
                      replace F_g := Lib.hid (F_g.out.keep hb8)
                      replace F_c := Lib.hid (F_c.out.keep hb8)
                      replace F_o := Lib.hid (F_o.out.keep hb8)
                      replace HBW := Lib.hid (HBW.out.trans (hb8.mono HBW.out.size))
                      replace hS := And.intro F_g.out.s (And.intro ((F_o.out.at hen).trans (congrArg (fun z => some (Value.int IntKind.u64 z)) HP1.out)) (And.intro ((F_o.out.at hmn).trans (congrArg (fun z => some (Value.int IntKind.u64 z)) HQ1.out)) ((HBW.out.cell (p := ⟨s, o + i, none⟩) hs).trans HCX.out)))
                      clear hb8
                      refine hK.out _ _ (fun _ => hS) ?_
                      clear hK K
                      try simp only [Act.put, List.setIfInBounds_toArray, List.set_cons_zero, List.set_cons_succ]
                      refine wpAnyB_takeP (i := 20) (some 132) (Op.indexAddr 25 (Operand.tmp 112) (Operand.tmp 113)) 0 (v := ?_) ⟨_, rfl, rfl, rfl, rfl, rfl⟩ (by kernel_rfl) (by kernel_rfl) (by kernel_rfl) (by kernel_rfl) (fun _ _ _ h => h) (fun _ => hS) (fun w' => ?_) ?_
                      rotate_left
                      · unfold bareOp
                        go_simp
                        try with_reducible rfl
                      simp only [Act.put, List.setIfInBounds_toArray, List.set_cons_zero, List.set_cons_succ]
                      refine wpAnyB_only (i := 21) none (Op.store 22 (Operand.tmp 132) (Operand.tmp 131)) 0 ⟨_, rfl, rfl, rfl, rfl, rfl⟩ (by kernel_rfl) (fun K hK => ?_)
                      unfold bareOp
                      have hcs := hS.2.2.1
                      have hfs := F_o.out.fz m
                      go_wp2_with fail
                      refine hK.out _ _ (fun h => absurd (h.symm.trans (by kernel_rfl : _ = true)) (by decide)) ?_
                      clear hK K
                      try simp only [Act.put, List.setIfInBounds_toArray, List.set_cons_zero, List.set_cons_succ]
                      refine wpAnyB_done (by kernel_rfl) ?_ _
                      replace F_g := Lib.hid (F_g.out.far (c := wo.heap.size) (o := m) (by omega) (.int .u64 t2))
                      replace F_o := Lib.hid (F_o.out.set (k := m) t2)
                      replace F_c := Lib.hid (F_c.out.far (b := wo.heap.size) (o := m) (Ne.symm hne) (.int .u64 t2))
                      replace HBW := Lib.hid (HBW.out.setCell (p := ⟨wo.heap.size, m, none⟩) (by show w.heap.size ≤ wo.heap.size; omega) (.int .u64 t2))
                      clear hS
                      go_wp2_with fail
                      go_roundw
                      case rel => first | exact ⟨e, hen, rfl, _, HST.out, F_o.out, F_c.out, F_g.out, HBW.out⟩ | ((repeat apply Exists.intro); exact ⟨⟨e, hen, rfl, _, HST.out, F_o.out, F_c.out, F_g.out, HBW.out⟩, rfl⟩)
                      case measure => have := HE.out; simp [intOf]; omega

end Go.Proofs.Ytjfaaicbojnpaaa
/- ShamirNames: the statement: for every input the law returns true, and the arguments read as before. -/
namespace Go.Proofs.Ytjfaaicbojnpaaa.lawNames
open Go.ChangeShapes Go.WideShapes Go.ChangeAt Go.RowKit Num
set_option linter.unusedSimpArgs false
set_option linter.unusedVariables false

theorem made_nums (m : Nat) (hm : m ≤ 9000) : ∃ o : Obj, (∀ w : World, (Instr.makeSlice 25 (.int .i64 m) (.int .i64 m)).run Try.prog w = .ok (.slice (some ⟨w.heap.size, 0, none⟩) m m) (w.alloc o)) ∧ ∀ w : World, ShI .u64 (w.alloc o) (some ⟨w.heap.size, 0, none⟩) m (List.replicate m 0) := by
  obtain ⟨i0, hi, hz0, hz1, hz2⟩ := info_parts (P := Try.prog) (e := 22) (z := .int .u64 0) (size := 1) (bytes := 8) (by kernel_rfl)
  refine ⟨.cells (madeCells #[.int .u64 0] m) 22, fun w => ?_, fun w => ?_⟩
  · have h := run_make (P := Try.prog) w 25 22 i0 (.int .u64 0) Try.underlying25 hi hz0 .i64 .i64 m m (by omega) (by omega) (by rw [hz2]; omega) (by omega)
    rw [h, hz1]
    simp
    rfl
  · refine .inr ⟨w.heap.size, 0, rfl, by simp, by simp, fun i hi => ?_⟩
    have hi' : i < m := by simpa using hi
    rw [Nat.zero_add, World.cell?_alloc_new]
    rw [← Array.getElem?_toList, toList_madeCells_one]
    simp [List.getD_eq_getElem?_getD, hi']
theorem n_int : interpS 23 11 4 [0, 2] [3, 7] = (0, [3, 2]) := by decide +kernel
theorem n_v1 : verifyS 23 11 4 3 9 [18, 16] = (true, 0) := by decide +kernel
theorem n_v2 : verifyS 23 11 4 3 8 [18, 16] = (false, 0) := by decide +kernel
theorem n_a1 : valueS 23 11 4 1 [] = (0, 2) := by decide +kernel
theorem n_a2 : valueS 23 11 4 1 (List.replicate 9 0) = (0, 2) := by decide +kernel
theorem n_a3 : valueS 23 11 4 1 [11] = (0, 2) := by decide +kernel
theorem n_a4 : valueS 23 11 4 9 [1] = (0, 2) := by decide +kernel
theorem n_s1 : splitS 23 11 4 1 [1, 2] = (2, [], []) := by decide +kernel
theorem n_s2 : splitS 5 2 4 2 [1] = (2, [], []) := by decide +kernel
theorem n_w1 : weightsS 23 11 4 [0, 1] = (2, []) := by decide +kernel
theorem n_w2 : weightsS 23 11 4 [2, 2] = (2, []) := by decide +kernel
theorem n_w3 : weightsS 13 6 3 [1, 3] = (6, []) := by decide +kernel
theorem n_j : joinS 23 11 4 [1, 2] [1] = (0, 2) := by decide +kernel
theorem n_k : keyS 0 0 0 0 [] = (0, 300) := by decide +kernel
theorem n_m (C E : Dl) (c1 : C.xs = [1]) (c2 : C.ys = [1]) (d1 : E.xs = [1]) (d2 : E.ys = [1, 1]) : mergeS 23 11 4 [C, E] = (2, [], []) := by
  have h : fitsS 23 11 E.xs E.ys C.xs C.ys = false := by rw [c1, c2, d1, d2]; decide +kernel
  have hm : mallS 23 11 C [C, E] = false := by simp [mallS, h]
  simp [mergeS, hm, has_small]
theorem u_18 : ∀ x, x ∈ ([18, 16] : List Int) → U64 x := by simp [U64]
theorem u_37 : ∀ x, x ∈ ([3, 7] : List Int) → U64 x := by simp [U64]
theorem u_12 : ∀ x, x ∈ ([1, 2] : List Int) → U64 x := by simp [U64]
theorem u_11 : ∀ x, x ∈ ([11] : List Int) → U64 x := by simp [U64]
theorem u_1 : ∀ x, x ∈ ([1] : List Int) → U64 x := by simp [U64]
theorem u_1b : ∀ x, x ∈ ([1, 1] : List Int) → U64 x := by simp [U64]
theorem u_0 : ∀ x, x ∈ ([] : List Int) → U64 x := fun x h => by cases h
theorem u_9 : ∀ x, x ∈ (List.replicate 9 0 : List Int) → U64 x := fun x h => by rw [List.eq_of_mem_replicate h]; exact ⟨by decide, by decide⟩
theorem i_02 : ∀ x, x ∈ ([0, 2] : List Int) → I64 x := by simp [I64]
theorem i_01 : ∀ x, x ∈ ([0, 1] : List Int) → I64 x := by simp [I64]
theorem i_22 : ∀ x, x ∈ ([2, 2] : List Int) → I64 x := by simp [I64]
theorem i_13 : ∀ x, x ∈ ([1, 3] : List Int) → I64 x := by simp [I64]
theorem i_12 : ∀ x, x ∈ ([1, 2] : List Int) → I64 x := by simp [I64]
set_option maxRecDepth 100000 in
set_option maxHeartbeats 12800000 in
theorem walk (w : World) :
    Calls Try.prog 12 #[] w fun e w' => e = .returned (.bool true) ∧ Below w.heap.size w w' := by
  obtain ⟨BIG9, hmk9, hbig9⟩ := made_nums 9 (by decide)
  simp only [Int.cast_ofNat_Int] at hmk9
  have HBW := Lib.hid (show Below w.heap.size w w from Below.refl _ _)
  go_enter Try.func12, Try.ntmps12
  go_wp2_with fail
  refine (small_any _).mono ?_
  rintro e w1 ⟨rfl, hb1⟩
  replace HBW := Lib.hid (HBW.out.trans (hb1.mono HBW.out.size))
  clear hb1
  go_wp2_with fail
  have F_a := Lib.hid (ShI.laid .i64 w1 [0, 2] _ 3 (w1.heap.size) 2 (by simp) rfl rfl)
  replace HBW := Lib.hid (HBW.out.alloc HBW.out.size (.cells #[.int .i64 0, .int .i64 2] 3))
  replace F_a := Lib.hid (F_a.out.alloc (.cells #[.int .u64 3, .int .u64 7] 22))
  have F_b := Lib.hid (ShI.laid .u64 (w1.alloc (.cells #[.int .i64 0, .int .i64 2] 3)) [3, 7] _ 22 (w1.heap.size + 1) 2 (by simp) rfl rfl)
  replace HBW := Lib.hid (HBW.out.alloc HBW.out.size (.cells #[.int .u64 3, .int .u64 7] 22))
  refine (sinterp_any _ (by decide) (by decide) (by decide) F_a.out (by decide) i_02 F_b.out (by decide) u_37 n_int).mono ?_
  rintro e w2 ⟨v0, rfl, ho, hb2⟩
  replace F_a := Lib.hid (F_a.out.keep hb2)
  replace F_b := Lib.hid (F_b.out.keep hb2)
  replace HBW := Lib.hid (HBW.out.trans (hb2.mono HBW.out.size))
  clear hb2
  obtain ⟨ra, rc, rfl, hs0⟩ := ho.shI
  have F_r := Lib.hid (show ShI .u64 w2 ra 2 [3, 2] from hs0)
  clear ho hs0
  clear F_a
  clear F_b
  go_wp2_with fail
  refine (small_any _).mono ?_
  rintro e w3 ⟨rfl, hb3⟩
  replace F_r := Lib.hid (F_r.out.keep hb3)
  replace HBW := Lib.hid (HBW.out.trans (hb3.mono HBW.out.size))
  clear hb3
  go_wp2_with fail
  replace F_r := Lib.hid (F_r.out.alloc (.cells #[.int .u64 18, .int .u64 16] 22))
  have F_c := Lib.hid (ShI.laid .u64 w3 [18, 16] _ 22 (w3.heap.size) 2 (by simp) rfl rfl)
  replace HBW := Lib.hid (HBW.out.alloc HBW.out.size (.cells #[.int .u64 18, .int .u64 16] 22))
  refine (sVerify_any _ (by decide) (by decide) (by decide) ⟨by decide, by decide⟩ (by decide) (by decide) F_c.out (by decide) u_18 n_v1).mono ?_
  rintro e w4 ⟨rfl, hb4⟩
  replace F_r := Lib.hid (F_r.out.keep hb4)
  replace F_c := Lib.hid (F_c.out.keep hb4)
  replace HBW := Lib.hid (HBW.out.trans (hb4.mono HBW.out.size))
  clear hb4
  clear F_c
  go_wp2_with fail
  refine (small_any _).mono ?_
  rintro e w5 ⟨rfl, hb5⟩
  replace F_r := Lib.hid (F_r.out.keep hb5)
  replace HBW := Lib.hid (HBW.out.trans (hb5.mono HBW.out.size))
  clear hb5
  go_wp2_with fail
  replace F_r := Lib.hid (F_r.out.alloc (.cells #[.int .u64 18, .int .u64 16] 22))
  have F_c := Lib.hid (ShI.laid .u64 w5 [18, 16] _ 22 (w5.heap.size) 2 (by simp) rfl rfl)
  replace HBW := Lib.hid (HBW.out.alloc HBW.out.size (.cells #[.int .u64 18, .int .u64 16] 22))
  refine (sVerify_any _ (by decide) (by decide) (by decide) ⟨by decide, by decide⟩ (by decide) (by decide) F_c.out (by decide) u_18 n_v2).mono ?_
  rintro e w6 ⟨rfl, hb6⟩
  replace F_r := Lib.hid (F_r.out.keep hb6)
  replace F_c := Lib.hid (F_c.out.keep hb6)
  replace HBW := Lib.hid (HBW.out.trans (hb6.mono HBW.out.size))
  clear hb6
  clear F_c
  go_wp2_with fail
  refine (small_any _).mono ?_
  rintro e w7 ⟨rfl, hb7⟩
  replace F_r := Lib.hid (F_r.out.keep hb7)
  replace HBW := Lib.hid (HBW.out.trans (hb7.mono HBW.out.size))
  clear hb7
  go_wp2_with fail
  refine (sValue_any _ (by decide) (by decide) (by decide) (by decide) (by decide) (ShI.nil _ _ none) (by decide) u_0 n_a1).mono ?_
  rintro e w8 ⟨rfl, hb8⟩
  replace F_r := Lib.hid (F_r.out.keep hb8)
  replace HBW := Lib.hid (HBW.out.trans (hb8.mono HBW.out.size))
  clear hb8
  go_wp2_with fail
  go_cut [9, 10] from 63 (fun c9 c10 wx => c10 = .int .i64 2 ∧ Hid (ShI .u64 wx ra 2 [3, 2]) ∧ Hid (Below w.heap.size w wx))
  case first =>
    replace F_r := Lib.hid F_r.out.drew
    replace HBW := Lib.hid HBW.out.drew
    refine wp_region_stage 2 (fun w' => True) (by kernel_rfl) ?_
    generalize w8.drew = wd5 at F_r HBW ⊢
    refine wpAnyB_two (i := 0) (j := 1) (some 57) (Op.call { callee := Callee.value (Operand.func 46), args := #[], argTypes := #[] }) 24 (some 58) (Op.makeSlice 25 (Operand.const (Value.int IntKind.i64 9)) (Operand.const (Value.int IntKind.i64 9))) 25 ⟨_, rfl, rfl, rfl, rfl, rfl⟩ ⟨_, rfl, rfl, rfl, rfl, rfl⟩ (by kernel_rfl) (fun K hK => ?_) (fun K hK => ?_)
    · skip
      unfold bareOp
      go_wp2_with (go_at_call 46; refine (small_any _).mono ?_; rintro e w81 ⟨rfl, hb81⟩)
      replace F_r := Lib.hid (F_r.out.keep hb81)
      replace HBW := Lib.hid (HBW.out.trans (hb81.mono HBW.out.size))
      clear hb81
      refine hK.out _ _ (fun _ => trivial) ?_
      clear hK K
      try simp only [Act.put, List.setIfInBounds_toArray, List.set_cons_zero, List.set_cons_succ]
      refine wpAnyB_only (i := 1) (some 58) (Op.makeSlice 25 (Operand.const (Value.int IntKind.i64 9)) (Operand.const (Value.int IntKind.i64 9))) 25 ⟨_, rfl, rfl, rfl, rfl, rfl⟩ (by kernel_rfl) (fun K hK => ?_)
      unfold bareOp
      go_wp2_with fail
      have F_z := Lib.hid (hbig9 w81)
      replace F_r := Lib.hid (F_r.out.alloc BIG9)
      replace HBW := Lib.hid (HBW.out.alloc HBW.out.size BIG9)
      generalize w81.alloc BIG9 = w82 at F_z F_r HBW ⊢
      refine hK.out _ _ (fun _ => trivial) ?_
      clear hK K
      try simp only [Act.put, List.setIfInBounds_toArray, List.set_cons_zero, List.set_cons_succ]
      refine wpAnyB_only (i := 2) (some 59) (Op.call { callee := Callee.value (Operand.func 19), args := #[Operand.tmp 57, Operand.tmp 58, Operand.const (Value.int IntKind.i64 1)], argTypes := #[24, 25, 3] }) 39 ⟨_, rfl, rfl, rfl, rfl, rfl⟩ (by kernel_rfl) (fun K hK => ?_)
      unfold bareOp
      go_wp2_with (go_at_call 19; refine (sValue_any _ (by decide) (by decide) (by decide) (by decide) (by decide) F_z.out (by decide) u_9 n_a2).mono ?_; rintro e w83 ⟨rfl, hb83⟩)
      replace F_r := Lib.hid (F_r.out.keep hb83)
      replace F_z := Lib.hid (F_z.out.keep hb83)
      replace HBW := Lib.hid (HBW.out.trans (hb83.mono HBW.out.size))
      clear hb83
      refine hK.out _ _ (fun h => absurd (h.symm.trans (by kernel_rfl : _ = true)) (by decide)) ?_
      clear hK K
      try simp only [Act.put, List.setIfInBounds_toArray, List.set_cons_zero, List.set_cons_succ]
      refine wpAnyB_takeP (i := 3) (some 56) (Op.move (Operand.tmp 59)) 39 (v := ?_) ⟨_, rfl, rfl, rfl, rfl, rfl⟩ (by kernel_rfl) (by kernel_rfl) (by kernel_rfl) (by kernel_rfl) (fun _ _ _ h => h) (fun h => absurd (h.symm.trans (by kernel_rfl : _ = true)) (by decide)) (fun w' => ?_) ?_
      rotate_left
      · unfold bareOp
        go_simp
        try with_reducible rfl
      simp only [Act.put, List.setIfInBounds_toArray, List.set_cons_zero, List.set_cons_succ]
      refine wpAnyB_takeP (i := 4) (some 60) (Op.extract (Operand.tmp 56) 0) 22 (v := ?_) ⟨_, rfl, rfl, rfl, rfl, rfl⟩ (by kernel_rfl) (by kernel_rfl) (by kernel_rfl) (by kernel_rfl) (fun _ _ _ h => h) (fun h => absurd (h.symm.trans (by kernel_rfl : _ = true)) (by decide)) (fun w' => ?_) ?_
      rotate_left
      · unfold bareOp
        go_simp
        try with_reducible rfl
      simp only [Act.put, List.setIfInBounds_toArray, List.set_cons_zero, List.set_cons_succ]
      refine wpAnyB_takeP (i := 5) (some 61) (Op.extract (Operand.tmp 56) 1) 30 (v := ?_) ⟨_, rfl, rfl, rfl, rfl, rfl⟩ (by kernel_rfl) (by kernel_rfl) (by kernel_rfl) (by kernel_rfl) (fun _ _ _ h => h) (fun h => absurd (h.symm.trans (by kernel_rfl : _ = true)) (by decide)) (fun w' => ?_) ?_
      rotate_left
      · unfold bareOp
        go_simp
        try with_reducible rfl
      simp only [Act.put, List.setIfInBounds_toArray, List.set_cons_zero, List.set_cons_succ]
      refine wpAnyB_takeP (i := 6) (some 9) (Op.assign (Operand.tmp 60)) 22 (v := ?_) ⟨_, rfl, rfl, rfl, rfl, rfl⟩ (by kernel_rfl) (by kernel_rfl) (by kernel_rfl) (by kernel_rfl) (fun _ _ _ h => h) (fun h => absurd (h.symm.trans (by kernel_rfl : _ = true)) (by decide)) (fun w' => ?_) ?_
      rotate_left
      · unfold bareOp
        go_simp
        try with_reducible rfl
      simp only [Act.put, List.setIfInBounds_toArray, List.set_cons_zero, List.set_cons_succ]
      refine wpAnyB_takeP (i := 7) (some 10) (Op.assign (Operand.tmp 61)) 30 (v := ?_) ⟨_, rfl, rfl, rfl, rfl, rfl⟩ (by kernel_rfl) (by kernel_rfl) (by kernel_rfl) (by kernel_rfl) (fun _ _ _ h => h) (fun h => absurd (h.symm.trans (by kernel_rfl : _ = true)) (by decide)) (fun w' => ?_) ?_
      rotate_left
      · unfold bareOp
        go_simp
        try with_reducible rfl
      simp only [Act.put, List.setIfInBounds_toArray, List.set_cons_zero, List.set_cons_succ]
      refine wpAnyB_done (by kernel_rfl) ?_ _
      go_wp2_with fail
      go_meet
      case rel => exact ⟨rfl, F_r, HBW⟩
    · skip
      unfold bareOp
      go_wp2_with fail
      have F_z := Lib.hid (hbig9 wd5)
      replace F_r := Lib.hid (F_r.out.alloc BIG9)
      replace HBW := Lib.hid (HBW.out.alloc HBW.out.size BIG9)
      generalize wd5.alloc BIG9 = w84 at F_z F_r HBW ⊢
      refine hK.out _ _ (fun _ => trivial) ?_
      clear hK K
      try simp only [Act.put, List.setIfInBounds_toArray, List.set_cons_zero, List.set_cons_succ]
      refine wpAnyB_only (i := 0) (some 57) (Op.call { callee := Callee.value (Operand.func 46), args := #[], argTypes := #[] }) 24 ⟨_, rfl, rfl, rfl, rfl, rfl⟩ (by kernel_rfl) (fun K hK => ?_)
      unfold bareOp
      go_wp2_with (go_at_call 46; refine (small_any _).mono ?_; rintro e w85 ⟨rfl, hb85⟩)
      replace F_r := Lib.hid (F_r.out.keep hb85)
      replace F_z := Lib.hid (F_z.out.keep hb85)
      replace HBW := Lib.hid (HBW.out.trans (hb85.mono HBW.out.size))
      clear hb85
      refine hK.out _ _ (fun _ => trivial) ?_
      clear hK K
      try simp only [Act.put, List.setIfInBounds_toArray, List.set_cons_zero, List.set_cons_succ]
      refine wpAnyB_only (i := 2) (some 59) (Op.call { callee := Callee.value (Operand.func 19), args := #[Operand.tmp 57, Operand.tmp 58, Operand.const (Value.int IntKind.i64 1)], argTypes := #[24, 25, 3] }) 39 ⟨_, rfl, rfl, rfl, rfl, rfl⟩ (by kernel_rfl) (fun K hK => ?_)
      unfold bareOp
      go_wp2_with (go_at_call 19; refine (sValue_any _ (by decide) (by decide) (by decide) (by decide) (by decide) F_z.out (by decide) u_9 n_a2).mono ?_; rintro e w86 ⟨rfl, hb86⟩)
      replace F_r := Lib.hid (F_r.out.keep hb86)
      replace F_z := Lib.hid (F_z.out.keep hb86)
      replace HBW := Lib.hid (HBW.out.trans (hb86.mono HBW.out.size))
      clear hb86
      refine hK.out _ _ (fun h => absurd (h.symm.trans (by kernel_rfl : _ = true)) (by decide)) ?_
      clear hK K
      try simp only [Act.put, List.setIfInBounds_toArray, List.set_cons_zero, List.set_cons_succ]
      refine wpAnyB_takeP (i := 3) (some 56) (Op.move (Operand.tmp 59)) 39 (v := ?_) ⟨_, rfl, rfl, rfl, rfl, rfl⟩ (by kernel_rfl) (by kernel_rfl) (by kernel_rfl) (by kernel_rfl) (fun _ _ _ h => h) (fun h => absurd (h.symm.trans (by kernel_rfl : _ = true)) (by decide)) (fun w' => ?_) ?_
      rotate_left
      · unfold bareOp
        go_simp
        try with_reducible rfl
      simp only [Act.put, List.setIfInBounds_toArray, List.set_cons_zero, List.set_cons_succ]
      refine wpAnyB_takeP (i := 4) (some 60) (Op.extract (Operand.tmp 56) 0) 22 (v := ?_) ⟨_, rfl, rfl, rfl, rfl, rfl⟩ (by kernel_rfl) (by kernel_rfl) (by kernel_rfl) (by kernel_rfl) (fun _ _ _ h => h) (fun h => absurd (h.symm.trans (by kernel_rfl : _ = true)) (by decide)) (fun w' => ?_) ?_
      rotate_left
      · unfold bareOp
        go_simp
        try with_reducible rfl
      simp only [Act.put, List.setIfInBounds_toArray, List.set_cons_zero, List.set_cons_succ]
      refine wpAnyB_takeP (i := 5) (some 61) (Op.extract (Operand.tmp 56) 1) 30 (v := ?_) ⟨_, rfl, rfl, rfl, rfl, rfl⟩ (by kernel_rfl) (by kernel_rfl) (by kernel_rfl) (by kernel_rfl) (fun _ _ _ h => h) (fun h => absurd (h.symm.trans (by kernel_rfl : _ = true)) (by decide)) (fun w' => ?_) ?_
      rotate_left
      · unfold bareOp
        go_simp
        try with_reducible rfl
      simp only [Act.put, List.setIfInBounds_toArray, List.set_cons_zero, List.set_cons_succ]
      refine wpAnyB_takeP (i := 6) (some 9) (Op.assign (Operand.tmp 60)) 22 (v := ?_) ⟨_, rfl, rfl, rfl, rfl, rfl⟩ (by kernel_rfl) (by kernel_rfl) (by kernel_rfl) (by kernel_rfl) (fun _ _ _ h => h) (fun h => absurd (h.symm.trans (by kernel_rfl : _ = true)) (by decide)) (fun w' => ?_) ?_
      rotate_left
      · unfold bareOp
        go_simp
        try with_reducible rfl
      simp only [Act.put, List.setIfInBounds_toArray, List.set_cons_zero, List.set_cons_succ]
      refine wpAnyB_takeP (i := 7) (some 10) (Op.assign (Operand.tmp 61)) 30 (v := ?_) ⟨_, rfl, rfl, rfl, rfl, rfl⟩ (by kernel_rfl) (by kernel_rfl) (by kernel_rfl) (by kernel_rfl) (fun _ _ _ h => h) (fun h => absurd (h.symm.trans (by kernel_rfl : _ = true)) (by decide)) (fun w' => ?_) ?_
      rotate_left
      · unfold bareOp
        go_simp
        try with_reducible rfl
      simp only [Act.put, List.setIfInBounds_toArray, List.set_cons_zero, List.set_cons_succ]
      refine wpAnyB_done (by kernel_rfl) ?_ _
      go_wp2_with fail
      go_meet
      case rel => exact ⟨rfl, F_r, HBW⟩
  case rest =>
    clear F_r HBW
    obtain ⟨rfl, F_r, HBW⟩ := hcut
    go_wp2_with fail
    refine (small_any _).mono ?_
    rintro e w41 ⟨rfl, hb41⟩
    replace F_r := Lib.hid (F_r.out.keep hb41)
    replace HBW := Lib.hid (HBW.out.trans (hb41.mono HBW.out.size))
    clear hb41
    go_wp2_with fail
    replace F_r := Lib.hid (F_r.out.alloc (.cells #[.int .u64 11] 22))
    have F_c := Lib.hid (ShI.laid .u64 w41 [11] _ 22 (w41.heap.size) 1 (by simp) rfl rfl)
    replace HBW := Lib.hid (HBW.out.alloc HBW.out.size (.cells #[.int .u64 11] 22))
    refine (sValue_any _ (by decide) (by decide) (by decide) (by decide) (by decide) F_c.out (by decide) u_11 n_a3).mono ?_
    rintro e w42 ⟨rfl, hb42⟩
    replace F_r := Lib.hid (F_r.out.keep hb42)
    replace F_c := Lib.hid (F_c.out.keep hb42)
    replace HBW := Lib.hid (HBW.out.trans (hb42.mono HBW.out.size))
    clear hb42
    clear F_c
    go_wp2_with fail
    refine (small_any _).mono ?_
    rintro e w43 ⟨rfl, hb43⟩
    replace F_r := Lib.hid (F_r.out.keep hb43)
    replace HBW := Lib.hid (HBW.out.trans (hb43.mono HBW.out.size))
    clear hb43
    go_wp2_with fail
    replace F_r := Lib.hid (F_r.out.alloc (.cells #[.int .u64 1] 22))
    have F_c := Lib.hid (ShI.laid .u64 w43 [1] _ 22 (w43.heap.size) 1 (by simp) rfl rfl)
    replace HBW := Lib.hid (HBW.out.alloc HBW.out.size (.cells #[.int .u64 1] 22))
    refine (sValue_any _ (by decide) (by decide) (by decide) (by decide) (by decide) F_c.out (by decide) u_1 n_a4).mono ?_
    rintro e w44 ⟨rfl, hb44⟩
    replace F_r := Lib.hid (F_r.out.keep hb44)
    replace F_c := Lib.hid (F_c.out.keep hb44)
    replace HBW := Lib.hid (HBW.out.trans (hb44.mono HBW.out.size))
    clear hb44
    clear F_c
    go_wp2_with fail
    refine (small_any _).mono ?_
    rintro e w45 ⟨rfl, hb45⟩
    replace F_r := Lib.hid (F_r.out.keep hb45)
    replace HBW := Lib.hid (HBW.out.trans (hb45.mono HBW.out.size))
    clear hb45
    go_wp2_with fail
    replace F_r := Lib.hid (F_r.out.alloc (.cells #[.int .u64 1, .int .u64 2] 22))
    have F_c := Lib.hid (ShI.laid .u64 w45 [1, 2] _ 22 (w45.heap.size) 2 (by simp) rfl rfl)
    replace HBW := Lib.hid (HBW.out.alloc HBW.out.size (.cells #[.int .u64 1, .int .u64 2] 22))
    refine (sSplit_any _ (by decide) (by decide) (by decide) (by decide) (by decide) F_c.out (by decide) u_12 n_s1).mono ?_
    rintro e w46 ⟨v1, v2, rfl, ho1, ho2, hb46⟩
    replace F_r := Lib.hid (F_r.out.keep hb46)
    replace F_c := Lib.hid (F_c.out.keep hb46)
    replace HBW := Lib.hid (HBW.out.trans (hb46.mono HBW.out.size))
    clear hb46
    obtain ⟨xa1, xc1, rfl, hs1⟩ := ho1.shI
    obtain ⟨xb1, xd1, rfl, hs2⟩ := ho2.shI
    clear ho1 ho2 hs1 hs2
    clear F_c
    go_wp2_with fail
    replace F_r := Lib.hid (F_r.out.alloc (.cells #[.slice xa1 0 xc1, .slice xb1 0 xd1] 27))
    replace HBW := Lib.hid (HBW.out.alloc HBW.out.size (.cells #[.slice xa1 0 xc1, .slice xb1 0 xd1] 27))
    refine (small_any _).mono ?_
    rintro e w47 ⟨rfl, hb47⟩
    replace F_r := Lib.hid (F_r.out.keep hb47)
    replace HBW := Lib.hid (HBW.out.trans (hb47.mono HBW.out.size))
    clear hb47
    go_wp2_with fail
    replace F_r := Lib.hid (F_r.out.alloc (.cells #[.int .i64 0, .int .i64 1] 3))
    have F_c := Lib.hid (ShI.laid .i64 w47 [0, 1] _ 3 (w47.heap.size) 2 (by simp) rfl rfl)
    replace HBW := Lib.hid (HBW.out.alloc HBW.out.size (.cells #[.int .i64 0, .int .i64 1] 3))
    refine (sweights_any _ (by decide) (by decide) (by decide) F_c.out (by decide) i_01 n_w1).mono ?_
    rintro e w48 ⟨v0, rfl, ho, hb48⟩
    replace F_r := Lib.hid (F_r.out.keep hb48)
    replace F_c := Lib.hid (F_c.out.keep hb48)
    replace HBW := Lib.hid (HBW.out.trans (hb48.mono HBW.out.size))
    clear hb48
    obtain ⟨t1, t2, rfl, hs0⟩ := ho.shI
    clear ho hs0
    clear F_c
    go_wp2_with fail
    refine (small_any _).mono ?_
    rintro e w49 ⟨rfl, hb49⟩
    replace F_r := Lib.hid (F_r.out.keep hb49)
    replace HBW := Lib.hid (HBW.out.trans (hb49.mono HBW.out.size))
    clear hb49
    go_wp2_with fail
    replace F_r := Lib.hid (F_r.out.alloc (.cells #[.int .i64 2, .int .i64 2] 3))
    have F_c := Lib.hid (ShI.laid .i64 w49 [2, 2] _ 3 (w49.heap.size) 2 (by simp) rfl rfl)
    replace HBW := Lib.hid (HBW.out.alloc HBW.out.size (.cells #[.int .i64 2, .int .i64 2] 3))
    refine (sweights_any _ (by decide) (by decide) (by decide) F_c.out (by decide) i_22 n_w2).mono ?_
    rintro e w50 ⟨v0, rfl, ho, hb50⟩
    replace F_r := Lib.hid (F_r.out.keep hb50)
    replace F_c := Lib.hid (F_c.out.keep hb50)
    replace HBW := Lib.hid (HBW.out.trans (hb50.mono HBW.out.size))
    clear hb50
    obtain ⟨t3, t4, rfl, hs0⟩ := ho.shI
    clear ho hs0
    clear F_c
    go_wp2_with fail
    replace F_r := Lib.hid (F_r.out.alloc (.cells #[.int .i64 1, .int .i64 3] 3))
    have F_c := Lib.hid (ShI.laid .i64 w50 [1, 3] _ 3 (w50.heap.size) 2 (by simp) rfl rfl)
    replace HBW := Lib.hid (HBW.out.alloc HBW.out.size (.cells #[.int .i64 1, .int .i64 3] 3))
    refine (sweights_any _ (by decide) (by decide) (by decide) F_c.out (by decide) i_13 n_w3).mono ?_
    rintro e w51 ⟨v0, rfl, ho, hb51⟩
    replace F_r := Lib.hid (F_r.out.keep hb51)
    replace F_c := Lib.hid (F_c.out.keep hb51)
    replace HBW := Lib.hid (HBW.out.trans (hb51.mono HBW.out.size))
    clear hb51
    obtain ⟨t5, t6, rfl, hs0⟩ := ho.shI
    clear ho hs0
    clear F_c
    go_wp2_with fail
    refine (small_any _).mono ?_
    rintro e w52 ⟨rfl, hb52⟩
    replace F_r := Lib.hid (F_r.out.keep hb52)
    replace HBW := Lib.hid (HBW.out.trans (hb52.mono HBW.out.size))
    clear hb52
    go_wp2_with fail
    replace F_r := Lib.hid (F_r.out.alloc (.cells #[.int .i64 1, .int .i64 2] 3))
    have F_c := Lib.hid (ShI.laid .i64 w52 [1, 2] _ 3 (w52.heap.size) 2 (by simp) rfl rfl)
    replace HBW := Lib.hid (HBW.out.alloc HBW.out.size (.cells #[.int .i64 1, .int .i64 2] 3))
    replace F_r := Lib.hid (F_r.out.alloc (.cells #[.int .u64 1] 22))
    replace F_c := Lib.hid (F_c.out.alloc (.cells #[.int .u64 1] 22))
    have F_d := Lib.hid (ShI.laid .u64 (w52.alloc (.cells #[.int .i64 1, .int .i64 2] 3)) [1] _ 22 (w52.heap.size + 1) 1 (by simp) rfl rfl)
    replace HBW := Lib.hid (HBW.out.alloc HBW.out.size (.cells #[.int .u64 1] 22))
    refine (sJoin_any _ (by decide) (by decide) (by decide) F_c.out (by decide) i_12 F_d.out (by decide) u_1 n_j).mono ?_
    rintro e w53 ⟨rfl, hb53⟩
    replace F_r := Lib.hid (F_r.out.keep hb53)
    replace F_c := Lib.hid (F_c.out.keep hb53)
    replace F_d := Lib.hid (F_d.out.keep hb53)
    replace HBW := Lib.hid (HBW.out.trans (hb53.mono HBW.out.size))
    clear hb53
    clear F_c
    clear F_d
    go_wp2_with fail
    refine (small_any _).mono ?_
    rintro e w54 ⟨rfl, hb54⟩
    replace F_r := Lib.hid (F_r.out.keep hb54)
    replace HBW := Lib.hid (HBW.out.trans (hb54.mono HBW.out.size))
    clear hb54
    go_wp2_with fail
    replace F_r := Lib.hid (F_r.out.alloc (.cells #[.int .u64 1] 22))
    have F_c := Lib.hid (ShI.laid .u64 w54 [1] _ 22 (w54.heap.size) 1 (by simp) rfl rfl)
    replace HBW := Lib.hid (HBW.out.alloc HBW.out.size (.cells #[.int .u64 1] 22))
    replace F_r := Lib.hid (F_r.out.alloc (.cells #[.int .u64 1] 22))
    replace F_c := Lib.hid (F_c.out.alloc (.cells #[.int .u64 1] 22))
    have F_d := Lib.hid (ShI.laid .u64 (w54.alloc (.cells #[.int .u64 1] 22)) [1] _ 22 (w54.heap.size + 1) 1 (by simp) rfl rfl)
    replace HBW := Lib.hid (HBW.out.alloc HBW.out.size (.cells #[.int .u64 1] 22))
    replace F_r := Lib.hid (F_r.out.alloc (.cells #[.int .u64 1] 22))
    replace F_c := Lib.hid (F_c.out.alloc (.cells #[.int .u64 1] 22))
    replace F_d := Lib.hid (F_d.out.alloc (.cells #[.int .u64 1] 22))
    have F_e := Lib.hid (ShI.laid .u64 ((w54.alloc (.cells #[.int .u64 1] 22)).alloc (.cells #[.int .u64 1] 22)) [1] _ 22 (w54.heap.size + 1 + 1) 1 (by simp) rfl rfl)
    replace HBW := Lib.hid (HBW.out.alloc HBW.out.size (.cells #[.int .u64 1] 22))
    replace F_r := Lib.hid (F_r.out.alloc (.cells #[.int .u64 1, .int .u64 1] 22))
    replace F_c := Lib.hid (F_c.out.alloc (.cells #[.int .u64 1, .int .u64 1] 22))
    replace F_d := Lib.hid (F_d.out.alloc (.cells #[.int .u64 1, .int .u64 1] 22))
    replace F_e := Lib.hid (F_e.out.alloc (.cells #[.int .u64 1, .int .u64 1] 22))
    have F_f := Lib.hid (ShI.laid .u64 (((w54.alloc (.cells #[.int .u64 1] 22)).alloc (.cells #[.int .u64 1] 22)).alloc (.cells #[.int .u64 1] 22)) [1, 1] _ 22 (w54.heap.size + 1 + 1 + 1) 2 (by simp) rfl rfl)
    replace HBW := Lib.hid (HBW.out.alloc HBW.out.size (.cells #[.int .u64 1, .int .u64 1] 22))
    have F_l := Lib.hid (show DRow (((((w54.alloc (.cells #[.int .u64 1] 22)).alloc (.cells #[.int .u64 1] 22)).alloc (.cells #[.int .u64 1] 22)).alloc (.cells #[.int .u64 1, .int .u64 1] 22)).alloc (.cells #[.slice (some ⟨w54.heap.size, 0, none⟩) 1 1, .slice (some ⟨w54.heap.size + 1, 0, none⟩) 1 1, .slice (some ⟨w54.heap.size + 1 + 1, 0, none⟩) 1 1, .slice (some ⟨w54.heap.size + 1 + 1 + 1, 0, none⟩) 2 2] 27)) (w54.heap.size + 1 + 1 + 1 + 1) 0 [(Dl.mk (some ⟨w54.heap.size, 0, none⟩) 1 1 [1] (some ⟨w54.heap.size + 1, 0, none⟩) 1 1 [1]), (Dl.mk (some ⟨w54.heap.size + 1 + 1, 0, none⟩) 1 1 [1] (some ⟨w54.heap.size + 1 + 1 + 1, 0, none⟩) 2 2 [1, 1])] from by have h := DRow.two (W := ((((w54.alloc (.cells #[.int .u64 1] 22)).alloc (.cells #[.int .u64 1] 22)).alloc (.cells #[.int .u64 1] 22)).alloc (.cells #[.int .u64 1, .int .u64 1] 22))) (A := (Dl.mk (some ⟨w54.heap.size, 0, none⟩) 1 1 [1] (some ⟨w54.heap.size + 1, 0, none⟩) 1 1 [1])) (B := (Dl.mk (some ⟨w54.heap.size + 1 + 1, 0, none⟩) 1 1 [1] (some ⟨w54.heap.size + 1 + 1 + 1, 0, none⟩) 2 2 [1, 1])) 27 ⟨F_c.out, F_d.out, (by show (1 : Nat) ≤ 1000000; decide), (by show (1 : Nat) ≤ 1000000; decide), u_1, u_1⟩ ⟨F_e.out, F_f.out, (by show (1 : Nat) ≤ 1000000; decide), (by show (2 : Nat) ≤ 1000000; decide), u_1, u_1b⟩; simp only [World.size_alloc] at h; exact h)
    replace F_r := Lib.hid (F_r.out.alloc (.cells #[.slice (some ⟨w54.heap.size, 0, none⟩) 1 1, .slice (some ⟨w54.heap.size + 1, 0, none⟩) 1 1, .slice (some ⟨w54.heap.size + 1 + 1, 0, none⟩) 1 1, .slice (some ⟨w54.heap.size + 1 + 1 + 1, 0, none⟩) 2 2] 27))
    replace F_c := Lib.hid (F_c.out.alloc (.cells #[.slice (some ⟨w54.heap.size, 0, none⟩) 1 1, .slice (some ⟨w54.heap.size + 1, 0, none⟩) 1 1, .slice (some ⟨w54.heap.size + 1 + 1, 0, none⟩) 1 1, .slice (some ⟨w54.heap.size + 1 + 1 + 1, 0, none⟩) 2 2] 27))
    replace F_d := Lib.hid (F_d.out.alloc (.cells #[.slice (some ⟨w54.heap.size, 0, none⟩) 1 1, .slice (some ⟨w54.heap.size + 1, 0, none⟩) 1 1, .slice (some ⟨w54.heap.size + 1 + 1, 0, none⟩) 1 1, .slice (some ⟨w54.heap.size + 1 + 1 + 1, 0, none⟩) 2 2] 27))
    replace F_e := Lib.hid (F_e.out.alloc (.cells #[.slice (some ⟨w54.heap.size, 0, none⟩) 1 1, .slice (some ⟨w54.heap.size + 1, 0, none⟩) 1 1, .slice (some ⟨w54.heap.size + 1 + 1, 0, none⟩) 1 1, .slice (some ⟨w54.heap.size + 1 + 1 + 1, 0, none⟩) 2 2] 27))
    replace F_f := Lib.hid (F_f.out.alloc (.cells #[.slice (some ⟨w54.heap.size, 0, none⟩) 1 1, .slice (some ⟨w54.heap.size + 1, 0, none⟩) 1 1, .slice (some ⟨w54.heap.size + 1 + 1, 0, none⟩) 1 1, .slice (some ⟨w54.heap.size + 1 + 1 + 1, 0, none⟩) 2 2] 27))
    replace HBW := Lib.hid (HBW.out.alloc HBW.out.size (.cells #[.slice (some ⟨w54.heap.size, 0, none⟩) 1 1, .slice (some ⟨w54.heap.size + 1, 0, none⟩) 1 1, .slice (some ⟨w54.heap.size + 1 + 1, 0, none⟩) 1 1, .slice (some ⟨w54.heap.size + 1 + 1 + 1, 0, none⟩) 2 2] 27))
    refine (smerge_any (k := 2) (cap := 2) (E := (Dl.mk (some ⟨w54.heap.size, 0, none⟩) 1 1 [1] (some ⟨w54.heap.size + 1, 0, none⟩) 1 1 [1])) (l := [(Dl.mk (some ⟨w54.heap.size, 0, none⟩) 1 1 [1] (some ⟨w54.heap.size + 1, 0, none⟩) 1 1 [1]), (Dl.mk (some ⟨w54.heap.size + 1 + 1, 0, none⟩) 1 1 [1] (some ⟨w54.heap.size + 1 + 1 + 1, 0, none⟩) 2 2 [1, 1])]) _ (by decide) (by decide) (by decide) F_l.out rfl rfl (by omega) (by omega) (by omega) (n_m (Dl.mk (some ⟨w54.heap.size, 0, none⟩) 1 1 [1] (some ⟨w54.heap.size + 1, 0, none⟩) 1 1 [1]) (Dl.mk (some ⟨w54.heap.size + 1 + 1, 0, none⟩) 1 1 [1] (some ⟨w54.heap.size + 1 + 1 + 1, 0, none⟩) 2 2 [1, 1]) rfl rfl rfl rfl)).mono ?_
    rintro e w55 ⟨v1, v2, rfl, ho1, ho2, hb55⟩
    replace F_r := Lib.hid (F_r.out.keep hb55)
    replace F_c := Lib.hid (F_c.out.keep hb55)
    replace F_d := Lib.hid (F_d.out.keep hb55)
    replace F_e := Lib.hid (F_e.out.keep hb55)
    replace F_f := Lib.hid (F_f.out.keep hb55)
    replace HBW := Lib.hid (HBW.out.trans (hb55.mono HBW.out.size))
    clear hb55
    obtain ⟨xa2, xc2, rfl, hs1⟩ := ho1.shI
    obtain ⟨xb2, xd2, rfl, hs2⟩ := ho2.shI
    clear ho1 ho2 hs1 hs2
    clear F_l
    clear F_c
    clear F_d
    clear F_e
    clear F_f
    go_wp2_with fail
    replace F_r := Lib.hid (F_r.out.alloc (.cells #[.slice xa2 0 xc2, .slice xb2 0 xd2] 27))
    replace HBW := Lib.hid (HBW.out.alloc HBW.out.size (.cells #[.slice xa2 0 xc2, .slice xb2 0 xd2] 27))
    refine (sKey_any _ (by decide) (by decide) (by decide) (by decide) (by decide) (ShI.nil _ _ none) (by decide) u_0 n_k).mono ?_
    rintro e w56 ⟨rfl, hb56⟩
    replace F_r := Lib.hid (F_r.out.keep hb56)
    replace HBW := Lib.hid (HBW.out.trans (hb56.mono HBW.out.size))
    clear hb56
    go_wp2_with fail
    replace F_r := Lib.hid (F_r.out.alloc (.cells #[.int .u64 1] 22))
    have F_c := Lib.hid (ShI.laid .u64 w56 [1] _ 22 (w56.heap.size) 1 (by simp) rfl rfl)
    replace HBW := Lib.hid (HBW.out.alloc HBW.out.size (.cells #[.int .u64 1] 22))
    refine (sSplit_any _ (by decide) (by decide) (by decide) (by decide) (by decide) F_c.out (by decide) u_1 n_s2).mono ?_
    rintro e w57 ⟨v1, v2, rfl, ho1, ho2, hb57⟩
    replace F_r := Lib.hid (F_r.out.keep hb57)
    replace F_c := Lib.hid (F_c.out.keep hb57)
    replace HBW := Lib.hid (HBW.out.trans (hb57.mono HBW.out.size))
    clear hb57
    obtain ⟨xa3, xc3, rfl, hs1⟩ := ho1.shI
    obtain ⟨xb3, xd3, rfl, hs2⟩ := ho2.shI
    clear ho1 ho2 hs1 hs2
    clear F_c
    go_wp2_with fail
    replace F_r := Lib.hid (F_r.out.alloc (.cells #[.slice xa3 0 xc3, .slice xb3 0 xd3] 27))
    replace HBW := Lib.hid (HBW.out.alloc HBW.out.size (.cells #[.slice xa3 0 xc3, .slice xb3 0 xd3] 27))
    replace F_r := Lib.hid (F_r.out.alloc (.cells #[.int .u64 3, .int .u64 2] 22))
    have F_c := Lib.hid (ShI.laid .u64 (w57.alloc (.cells #[.slice xa3 0 xc3, .slice xb3 0 xd3] 27)) [3, 2] _ 22 (w57.heap.size + 1) 2 (by simp) rfl rfl)
    replace HBW := Lib.hid (HBW.out.alloc HBW.out.size (.cells #[.int .u64 3, .int .u64 2] 22))
    refine (are_yes _ F_r.out F_c.out (by decide)).mono ?_
    rintro e w58 ⟨rfl, hb58⟩
    replace F_r := Lib.hid (F_r.out.keep hb58)
    replace F_c := Lib.hid (F_c.out.keep hb58)
    replace HBW := Lib.hid (HBW.out.trans (hb58.mono HBW.out.size))
    clear hb58
    clear F_c
    go_wp2_with fail
    refine (alive_yes _).mono ?_
    rintro e w59 ⟨rfl, hb59⟩
    replace F_r := Lib.hid (F_r.out.keep hb59)
    replace HBW := Lib.hid (HBW.out.trans (hb59.mono HBW.out.size))
    clear hb59
    go_wp2_with fail
    go_ret
    exact ⟨rfl, HBW.out⟩


set_option maxRecDepth 100000 in
theorem lifted (os : Os) (started : os.Started) (H : Type) (enc : TypeId × Value → H) :
    ReturnsInHanded {} Try.checked os 12 .any (Rows.shamirNamesSpec.pre6 enc Try.prog Try.f12 Rows.shamirNamesRow.domain false) (Rows.shamirNamesSpec.post enc Try.prog Try.f12 false true false false) := by
  refine returnsInHanded_of_change (C := Try.checked) own started (by kernel_rfl) Try.func12
    (ChangeSpec.witness6 (enc := enc) (C := Try.checked) false ⟨#[], #[], []⟩ 8 (by kernel_rfl) (by kernel_rfl) (by kernel_rfl) (by kernel_rfl)) ?_
  intro W base args ds gs before hval0 hW _ _
  have hval : ∀ (j : Nat) t v, Try.f12.params[j]? = some t → args[j]? = some v → Value.okWide Try.prog W .any base t v := hval0
  have hW' := hW
  obtain ⟨p, q, hA0, hV, rfl, hfz, hnd⟩ := hW
  have hA : DataW.TrodAll enc Try.prog W 0 (fun _ => true) true Try.f12.params.toList args.toList ds p := hA0
  rw [Try.params12] at hA hval
  have hK := hA
  obtain ⟨hargs, rfl, rfl⟩ := trodAll_nil hA
  obtain rfl : args = #[] := by cases args; simp_all
  obtain ⟨rfl, rfl⟩ := trodVars_none hV
  clear hA0 hval0
  refine (walk  W ).mono fun e W' ⟨he, bel⟩ => ?_
  subst he
  exact ⟨_, rfl, _, _, _, [], _, [], hW', trodAll_mk1 (shut_bool Try.underlying4 _), trodAll_stays laidOut (by kernel_rfl) hK bel, rfl, bel.frame _, fun h => by cases h⟩

theorem over : Rows.shamirNamesRow.holds Try.pinned (OpenSpec.ofChange Rows.shamirNamesSpec) :=
  OpenClaim.holds_of_wide 12 Try.f12 rfl rfl rfl rfl rfl rfl rfl ⟨rfl, rfl, rfl, rfl, rfl⟩ rfl rfl rfl rfl rfl (by kernel_rfl) Try.func12 (by kernel_rfl)
    (of_decide_eq_true (by kernel_rfl)) (by unfold Func.isWrapper; first | (rw [if_pos (by decide +kernel)]; kernel_rfl) | (rw [if_neg (by decide +kernel)]; exact ⟨rfl, rfl⟩))
    (fun os started H enc _ => lifted os started H enc)

theorem proved : Rows.ShamirNamesSaid := over
#print axioms proved
end Go.Proofs.Ytjfaaicbojnpaaa.lawNames
