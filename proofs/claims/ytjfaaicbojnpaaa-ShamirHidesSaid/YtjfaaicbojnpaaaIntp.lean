/- shamir.Interpolate: Newton's divided differences. -/
import Derived.Test.YtjfaaicbojnpaaaOwnN
import Derived.Test.YtjfaaicbojnpaaaShG
namespace Go.Proofs.Ytjfaaicbojnpaaa
open Go.RowKit Num
set_option linter.unusedSimpArgs false
set_option linter.unusedVariables false

/-- One round over the sum: positions behind m are new. -/
def InB (Q x : Int) (n : Nat) (out : List Int) (m : Nat) (o : List Int) : Prop :=
  o.length = n ∧ ∀ j, o.getD j 0 = if m < j ∧ j < n then (out.getD (j - 1) 0 - out.getD j 0 * x % Q) % Q else out.getD j 0
theorem InB.start {Q x : Int} {n : Nat} {out : List Int} (h : out.length = n) : InB Q x n out (n - 1) out := ⟨h, fun j => by rw [if_neg (by omega)]⟩
theorem InB.step {Q x : Int} {n m : Nat} {out o : List Int} (h : InB Q x n out m o) (h1 : 1 ≤ m) (hm : m < n) :
    InB Q x n out (m - 1) (o.set m ((o.getD (m - 1) 0 - o.getD m 0 * x % Q) % Q)) := by
  refine ⟨by rw [List.length_set]; exact h.1, fun j => ?_⟩
  rw [getD_set (by rw [h.1]; exact hm)]
  by_cases e : m = j
  · subst e
    rw [if_pos rfl, if_pos (by omega), h.2, h.2, if_neg (by omega), if_neg (by omega)]
  · rw [if_neg e, h.2 j]
    by_cases e2 : m < j ∧ j < n
    · rw [if_pos e2, if_pos (by omega)]
    · rw [if_neg e2, if_neg (by omega)]
theorem getD_rng {Q : Int} (hQ : 0 < Q) {l : List Int} (h : ∀ x, x ∈ l → 0 ≤ x ∧ x < Q) (j : Nat) : 0 ≤ l.getD j 0 ∧ l.getD j 0 < Q := by
  by_cases hj : j < l.length
  · rw [getD_at hj]; exact h _ (List.getElem_mem hj)
  · rw [List.getD_eq_getElem?_getD, List.getElem?_eq_none (by omega)]; exact ⟨Int.le_refl _, hQ⟩
theorem InB.rng {Q x : Int} {n m : Nat} {out o : List Int} (hQ : 0 < Q) (h : InB Q x n out m o) (hr : ∀ x, x ∈ out → 0 ≤ x ∧ x < Q) (j : Nat) : 0 ≤ o.getD j 0 ∧ o.getD j 0 < Q := by
  rw [h.2 j]
  split
  · exact ⟨Int.emod_nonneg _ (by omega), Int.emod_lt_of_pos _ hQ⟩
  · exact getD_rng hQ hr j
theorem getD_over {l : List Int} {j : Nat} (h : l.length ≤ j) : l.getD j 0 = 0 := by rw [List.getD_eq_getElem?_getD, List.getElem?_eq_none h]; rfl
theorem InB.last {Q ci : Int} {ids r out o : List Int} {i : Nat} (hQ : 0 < Q) (hi : i < ids.length) (hrl : r.length = ids.length) (hO : OutS Q ids r (i + 1) out) (hc : Cg Q ci (cc ids r i i))
    (h : InB Q (ids.getD i 0) ids.length out 0 o) : OutS Q ids r i (o.set 0 ((ci + (0 - o.getD 0 0 * ids.getD i 0 % Q) % Q) % Q)) := by
  have hr := h.rng hQ hO.2.1
  refine ⟨by rw [List.length_set]; exact h.1, fun x hx => ?_, fun j => ?_⟩
  · rcases mem_set hx with hx | rfl
    · obtain ⟨k, hk, rfl⟩ := List.mem_iff_getElem.1 hx
      have := hr k
      rwa [getD_at hk] at this
    · exact ⟨Int.emod_nonneg _ (by omega), Int.emod_lt_of_pos _ hQ⟩
  · rw [getD_set (by rw [h.1]; omega)]
    have hs := out_step hi hrl hO j
    by_cases e : 0 = j
    · subst e
      rw [if_pos rfl] at hs ⊢
      refine Cg.trans ?_ hs
      rw [h.2 0, if_neg (by omega)]
      refine (cg_emod _ _).trans ((hc.add ((cg_emod _ _).trans ((Cg.refl Q 0).sub (cg_emod _ _)))).trans (Cg.of_eq ?_))
      omega
    · rw [if_neg e, h.2 j]
      by_cases e2 : 0 < j ∧ j < ids.length
      · rw [if_pos e2]
        rw [if_neg (by omega)] at hs
        exact Cg.trans ((cg_emod _ _).trans ((Cg.refl Q _).sub (cg_emod _ _))) hs
      · rw [if_neg e2, getD_over (by rw [hO.1]; omega), getD_over (by rw [dvs_length, hrl]; omega)]
        exact Cg.refl _ _
theorem OutS.start {Q : Int} {ids r : List Int} (hQ : 0 < Q) (hrl : r.length = ids.length) : OutS Q ids r ids.length (List.replicate ids.length 0) := by
  refine ⟨by simp, fun x hx => by rw [List.mem_replicate] at hx; rw [hx.2]; exact ⟨Int.le_refl _, hQ⟩, fun j => ?_⟩
  rw [getD_over (l := dvs (seg ids 0 ids.length) r) (by rw [dvs_length]; simp [seg]; omega)]
  refine Cg.of_eq ?_
  by_cases hj : j < ids.length
  · rw [getD_at (by simpa using hj)]; simp
  · rw [getD_over (by simpa using hj)]
theorem OutS.done {Q : Int} {ids r out : List Int} (hrl : r.length = ids.length) (hr : ∀ x, x ∈ r → 0 ≤ x ∧ x < Q) (h : OutS Q ids r 0 out) : out = r :=
  list_eq_of_cg (by rw [h.1, hrl]) (fun k _ => by have := h.2.2 k; simpa [seg, dvs] using this) h.2.1 hr
/-- The coefficients through the points, or nothing. -/
def tailS (Q : Int) (ids vs : List Int) : Int × List Int := match throughS Q ids vs with | some r => (0, r) | none => (6, [])
theorem tail_none {Q : Int} {ids vs : List Int} (h : throughS Q ids vs = none) : tailS Q ids vs = (6, []) := by simp [tailS, h]
theorem tail_some {Q : Int} {ids vs r : List Int} (h : throughS Q ids vs = some r) : tailS Q ids vs = (0, r) := by simp [tailS, h]
def interpS (P Q G : Int) (ids vs : List Int) : Int × List Int :=
  if Has P Q G then (if listS Q 0 ids && (decide (vs.length = ids.length) && belowS Q vs) then tailS Q ids vs else (2, [])) else (300, [])
theorem DifS.over {Q : Int} {ids vs c : List Int} {k : Nat} (hQ : 0 < Q) (hnd : ids.Nodup) (hl : vs.length = ids.length) (hk : ids.length ≤ k) (h : DifS Q ids vs k (ids.length - 1) c) :
    ∃ r, throughS Q ids vs = some r ∧ r.length = ids.length ∧ (∀ x, x ∈ r → 0 ≤ x ∧ x < Q) ∧ ∀ j, j < ids.length → Cg Q (c.getD j 0) (cc ids r j j) := by
  obtain ⟨r, hr⟩ := sumL_ex (h.met.units hQ hk) (ids.zip vs) (List.replicate ids.length 0) (fun q hq => (List.of_mem_zip hq).1)
  have hr : throughS Q ids vs = some r := hr
  obtain ⟨h1, h2, -, -⟩ := through_at hQ hnd hl hr
  refine ⟨r, hr, h1, h2, fun j hj => ?_⟩
  have := h.val r hr j hj
  rwa [if_neg (by omega), show min (k - 1) j = j by omega] at this

set_option maxRecDepth 100000 in
set_option maxHeartbeats 8000000 in
theorem sinterp_any {P Q G er : Int} {a b : Option Addr} {n c m d : Nat} {ids vs rs : List Int} (w : World) (hP : 0 ≤ P) (hQ : 0 ≤ Q) (hG : 0 ≤ G) (h : ShI .i64 w a n ids) (hn : n ≤ 1000000) (hx : ∀ x, x ∈ ids → I64 x) (ht : ShI .u64 w b m vs) (hm : m ≤ 1000000) (hu : ∀ x, x ∈ vs → U64 x) (hr : interpS P Q G ids vs = (er, rs)) :
    Calls Try.prog 35 #[.agg #[.int .u64 P, .int .u64 Q, .int .u64 G], .slice a n c, .slice b m d] w (RetRow w er rs) := by
  have HS := Lib.hid h
  have HX := Lib.hid hx
  have HT := Lib.hid ht
  have HL1 := Lib.hid h.len
  have HL2 := Lib.hid ht.len
  clear hx ht
  by_cases hH : Has P Q G
  case neg =>
    obtain ⟨rfl, rfl⟩ := Prod.mk.inj (show (300, []) = (er, rs) by rw [← hr]; simp [interpS, hH])
    have HH := Lib.hid hH
    clear hr hH h hu
    have F_g := Lib.hid (show Boxed (w.alloc (.cells #[.int .u64 P, .int .u64 Q, .int .u64 G] 24)) (w.heap.size) P Q G from Boxed.at _ P Q G _ (w.heap.size) (by simp))
    have HBW := Lib.hid (show Below w.heap.size w (w.alloc (.cells #[.int .u64 P, .int .u64 Q, .int .u64 G] 24)) from (Below.refl _ _).alloc (by simp <;> omega) _)
    go_enter Try.func35, Try.ntmps35
    obtain ⟨x0a, x0b, x0c, -⟩ := id F_g.out
    go_wp2_with fail
    clear x0a x0b x0c
    refine (form_no P Q G _ hP hQ hG HH.out).mono ?_
    rintro e w1 ⟨rfl, hb1⟩
    replace F_g := Lib.hid (F_g.out.keep hb1)
    replace HBW := Lib.hid (HBW.out.trans (hb1.mono HBW.out.size))
    clear hb1
    obtain ⟨x0a, x0b, x0c, -⟩ := id F_g.out
    go_wp2_with fail
    go_ret2
    exact ⟨_, rfl, OwnU.nil _ _, HBW.out⟩
  case pos =>
    obtain ⟨p5, p3, hQ', pq, g2, gP⟩ := id hH
    have q3 : Q < 1073741824 := by omega
    have q1 : 1 < Q := by omega
    have HH := Lib.hid hH
    clear pq
    cases hl : listS Q 0 ids
    case false =>
      obtain ⟨rfl, rfl⟩ := Prod.mk.inj (show (2, []) = (er, rs) by rw [← hr]; simp [interpS, hH, hl])
      have HL := Lib.hid hl
      clear hr hl hH h hu
      have F_g := Lib.hid (show Boxed (w.alloc (.cells #[.int .u64 P, .int .u64 Q, .int .u64 G] 24)) (w.heap.size) P Q G from Boxed.at _ P Q G _ (w.heap.size) (by simp))
      have HBW := Lib.hid (show Below w.heap.size w (w.alloc (.cells #[.int .u64 P, .int .u64 Q, .int .u64 G] 24)) from (Below.refl _ _).alloc (by simp <;> omega) _)
      go_enter Try.func35, Try.ntmps35
      obtain ⟨x0a, x0b, x0c, -⟩ := id F_g.out
      go_wp2_with fail
      clear x0a x0b x0c
      refine (form_yes P Q G _ HH.out).mono ?_
      rintro e w1 ⟨rfl, hb1⟩
      replace F_g := Lib.hid (F_g.out.keep hb1)
      replace HBW := Lib.hid (HBW.out.trans (hb1.mono HBW.out.size))
      clear hb1
      obtain ⟨x0a, x0b, x0c, -⟩ := id F_g.out
      go_wp2_with fail
      clear x0a x0b x0c
      refine (slisted_any _ (by omega) (by omega) (HS.out.keep HBW.out) hn HX.out HL.out).mono ?_
      rintro e w2 ⟨rfl, hb2⟩
      replace F_g := Lib.hid (F_g.out.keep hb2)
      replace HBW := Lib.hid (HBW.out.trans (hb2.mono HBW.out.size))
      clear hb2
      obtain ⟨x0a, x0b, x0c, -⟩ := id F_g.out
      go_wp2_with fail
      go_ret2
      exact ⟨_, rfl, OwnU.nil _ _, HBW.out⟩
    case true =>
      have HL := Lib.hid hl
      by_cases hmn : m = n
      case neg =>
        have hln : ¬ vs.length = ids.length := by rw [← HL1.out, ← HL2.out]; exact hmn
        obtain ⟨rfl, rfl⟩ := Prod.mk.inj (show (2, []) = (er, rs) by rw [← hr]; simp [interpS, hH, hl, hln])
        have dm : ((m : Int) != (n : Int)) = true := by simp; omega
        have dmn : (m != n) = true := by simpa using hmn
        clear hr hl hH hln hmn h hu
        have F_g := Lib.hid (show Boxed (w.alloc (.cells #[.int .u64 P, .int .u64 Q, .int .u64 G] 24)) (w.heap.size) P Q G from Boxed.at _ P Q G _ (w.heap.size) (by simp))
        have HBW := Lib.hid (show Below w.heap.size w (w.alloc (.cells #[.int .u64 P, .int .u64 Q, .int .u64 G] 24)) from (Below.refl _ _).alloc (by simp <;> omega) _)
        go_enter Try.func35, Try.ntmps35
        obtain ⟨x0a, x0b, x0c, -⟩ := id F_g.out
        go_wp2_with fail
        clear x0a x0b x0c
        refine (form_yes P Q G _ HH.out).mono ?_
        rintro e w1 ⟨rfl, hb1⟩
        replace F_g := Lib.hid (F_g.out.keep hb1)
        replace HBW := Lib.hid (HBW.out.trans (hb1.mono HBW.out.size))
        clear hb1
        obtain ⟨x0a, x0b, x0c, -⟩ := id F_g.out
        go_wp2_with fail
        clear x0a x0b x0c
        refine (slisted_any _ (by omega) (by omega) (HS.out.keep HBW.out) hn HX.out HL.out).mono ?_
        rintro e w2 ⟨rfl, hb2⟩
        replace F_g := Lib.hid (F_g.out.keep hb2)
        replace HBW := Lib.hid (HBW.out.trans (hb2.mono HBW.out.size))
        clear hb2
        obtain ⟨x0a, x0b, x0c, -⟩ := id F_g.out
        go_wp2_with fail
        go_ret2
        exact ⟨_, rfl, OwnU.nil _ _, HBW.out⟩
      case pos =>
        have hln : vs.length = ids.length := by rw [← HL1.out, ← HL2.out]; exact hmn
        have hnm := hmn.symm
        clear hmn
        subst hnm
        cases hb : belowS Q vs
        case false =>
          obtain ⟨rfl, rfl⟩ := Prod.mk.inj (show (2, []) = (er, rs) by rw [← hr]; simp [interpS, hH, hl, hln, hb])
          have HB := Lib.hid hb
          clear hr hl hH hln hb h hu
          have F_g := Lib.hid (show Boxed (w.alloc (.cells #[.int .u64 P, .int .u64 Q, .int .u64 G] 24)) (w.heap.size) P Q G from Boxed.at _ P Q G _ (w.heap.size) (by simp))
          have HBW := Lib.hid (show Below w.heap.size w (w.alloc (.cells #[.int .u64 P, .int .u64 Q, .int .u64 G] 24)) from (Below.refl _ _).alloc (by simp <;> omega) _)
          go_enter Try.func35, Try.ntmps35
          obtain ⟨x0a, x0b, x0c, -⟩ := id F_g.out
          go_wp2_with fail
          clear x0a x0b x0c
          refine (form_yes P Q G _ HH.out).mono ?_
          rintro e w1 ⟨rfl, hb1⟩
          replace F_g := Lib.hid (F_g.out.keep hb1)
          replace HBW := Lib.hid (HBW.out.trans (hb1.mono HBW.out.size))
          clear hb1
          obtain ⟨x0a, x0b, x0c, -⟩ := id F_g.out
          go_wp2_with fail
          clear x0a x0b x0c
          refine (slisted_any _ (by omega) (by omega) (HS.out.keep HBW.out) hn HX.out HL.out).mono ?_
          rintro e w2 ⟨rfl, hb2⟩
          replace F_g := Lib.hid (F_g.out.keep hb2)
          replace HBW := Lib.hid (HBW.out.trans (hb2.mono HBW.out.size))
          clear hb2
          obtain ⟨x0a, x0b, x0c, -⟩ := id F_g.out
          go_wp2_with fail
          clear x0a x0b x0c
          refine (sbelow_any _ (HT.out.keep HBW.out) HB.out).mono ?_
          rintro e w3 ⟨rfl, hb3⟩
          replace F_g := Lib.hid (F_g.out.keep hb3)
          replace HBW := Lib.hid (HBW.out.trans (hb3.mono HBW.out.size))
          clear hb3
          obtain ⟨x0a, x0b, x0c, -⟩ := id F_g.out
          go_wp2_with fail
          go_ret2
          exact ⟨_, rfl, OwnU.nil _ _, HBW.out⟩
        case true =>
          have HW := Lib.hid (show tailS Q ids vs = (er, rs) by rw [← hr]; simp [interpS, hH, hl, hln, hb])
          have HB := Lib.hid hb
          obtain ⟨l1, l8, hinc⟩ := listS_true hl
          have HND := Lib.hid (incS_nodup hinc)
          have HBD := Lib.hid (list_bd hl)
          have HVR := Lib.hid (belowS_bd hb hu)
          have HLN := Lib.hid hln
          have hm1 : 1 ≤ n := by have := HL1.out; omega
          have hn8 : n ≤ 8 := by have := HL1.out; omega
          obtain ⟨s, o, rfl, -, hs, hcell⟩ := shI_some h hm1
          have HC := Lib.hid hcell
          clear hr hl hH hln hb h hu hcell hinc l1 l8
          have F_g := Lib.hid (show Boxed (w.alloc (.cells #[.int .u64 P, .int .u64 Q, .int .u64 G] 24)) (w.heap.size) P Q G from Boxed.at _ P Q G _ (w.heap.size) (by simp))
          have HBW := Lib.hid (show Below w.heap.size w (w.alloc (.cells #[.int .u64 P, .int .u64 Q, .int .u64 G] 24)) from (Below.refl _ _).alloc (by simp <;> omega) _)
          go_enter Try.func35, Try.ntmps35
          obtain ⟨x0a, x0b, x0c, -⟩ := id F_g.out
          go_wp2_with fail
          clear x0a x0b x0c
          refine (form_yes P Q G _ HH.out).mono ?_
          rintro e w1 ⟨rfl, hb1⟩
          replace F_g := Lib.hid (F_g.out.keep hb1)
          replace HBW := Lib.hid (HBW.out.trans (hb1.mono HBW.out.size))
          clear hb1
          obtain ⟨x0a, x0b, x0c, -⟩ := id F_g.out
          go_wp2_with fail
          clear x0a x0b x0c
          refine (slisted_any _ (by omega) (by omega) (HS.out.keep HBW.out) hn HX.out HL.out).mono ?_
          rintro e w2 ⟨rfl, hb2⟩
          replace F_g := Lib.hid (F_g.out.keep hb2)
          replace HBW := Lib.hid (HBW.out.trans (hb2.mono HBW.out.size))
          clear hb2
          obtain ⟨x0a, x0b, x0c, -⟩ := id F_g.out
          go_wp2_with fail
          clear x0a x0b x0c
          refine (sbelow_any _ (HT.out.keep HBW.out) HB.out).mono ?_
          rintro e w3 ⟨rfl, hb3⟩
          replace F_g := Lib.hid (F_g.out.keep hb3)
          replace HBW := Lib.hid (HBW.out.trans (hb3.mono HBW.out.size))
          clear hb3
          obtain ⟨x0a, x0b, x0c, -⟩ := id F_g.out
          go_wp2_with fail
          clear x0a x0b x0c
          refine (sclone_any _ (HT.out.keep HBW.out) hm1 (by omega)).mono ?_
          rintro e w4 ⟨v0, rfl, ho4, hb4⟩
          obtain ⟨gc, cap, rfl, hoc⟩ := (ho4.mono (Nat.succ_le_of_lt F_g.out.lt)).of2 HL2.out hm1
          have F_c := Lib.hid hoc
          replace F_g := Lib.hid (F_g.out.keep hb4)
          replace HBW := Lib.hid (HBW.out.trans (hb4.mono HBW.out.size))
          have hgc := F_c.out.lt.1
          clear hb4 ho4 hoc
          have hwn : IntKind.i64.wrap ((n : Int) - 1) = (n : Int) - 1 := IntWalk.i64_in _ (by omega)
          go_wp2_with fail
          go_loopw [10, 11, 12, 13] (fun c10 c11 c12 c13 wr => ∃ k : Nat, 1 ≤ k ∧ k ≤ n ∧ c10 = .int .i64 k ∧ ∃ cs : List Int, Hid (DifS Q ids vs k (n - 1) cs) ∧ Hid (OwnN wr (w.heap.size + 1) gc n cap cs) ∧ Hid (Boxed wr w.heap.size P Q G) ∧ Hid (Below w.heap.size w wr)) (fun c10 _ _ _ _ => n - (intOf c10).toNat)
          case atStart => exact ⟨1, Nat.le_refl _, hm1, rfl, vs, (show DifS Q ids vs 1 (n - 1) vs by rw [HL1.out]; exact DifS.start (by omega) HND.out HLN.out HVR.out), F_c.out, F_g.out, HBW.out⟩
          case round =>
            clear F_g F_c HBW
            obtain ⟨k, k1, kn, rfl, cs, HD, F_c, F_g, HBW⟩ := hrel
            obtain ⟨wo, rfl⟩ : ∃ wo : World, wo = wr := ⟨_, rfl⟩
            by_cases hlt : k < n
            case pos =>
              have hlt' : (k : Int) < (n : Int) := by omega
              go_wp2_with fail
              go_loopw [11, 12, 13] (fun c11 c12 c13 wr => ∃ i : Nat, k ≤ i + 1 ∧ i < n ∧ c11 = .int .i64 i ∧ ∃ cs : List Int, Hid (DifS Q ids vs k i cs) ∧ Hid (OwnN wr (w.heap.size + 1) gc n cap cs) ∧ Hid (Boxed wr w.heap.size P Q G) ∧ Hid (Below w.heap.size w wr)) (fun c11 _ _ _ => (intOf c11).toNat)
              case atStart => exact ⟨n - 1, by omega, by omega, congrArg _ (by omega), cs, HD.out, F_c.out, F_g.out, HBW.out⟩
              case round =>
                clear F_g F_c HBW HD cs
                obtain ⟨i, hki, hin, rfl, cs, HD, F_c, F_g, HBW⟩ := hrel
                by_cases hge : k ≤ i
                case neg =>
                  have hge' : (i : Int) < (k : Int) := by omega
                  have hge2 : ¬ ((k : Int) ≤ (i : Int)) := by omega
                  have HI := Lib.hid (show i = k - 1 by omega)
                  go_wp2_with fail
                  go_roundw
                  case rel => exact ⟨k + 1, by omega, by omega, by go_num, cs, (show DifS Q ids vs (k + 1) (n - 1) cs by rw [HL1.out]; refine DifS.next k1 ?_; rw [← HI.out]; exact HD.out), F_c.out, F_g.out, HBW.out⟩
                  case measure => simp [intOf] <;> omega
                case pos =>
                  have hge' : (k : Int) ≤ (i : Int) := by omega
                  have hi0 : (0 : Int) ≤ (i : Int) := by omega
                  have hi1 : (i : Int) < (n : Int) := by omega
                  obtain ⟨d, hd⟩ : ∃ d, i - k = d := ⟨_, rfl⟩
                  obtain ⟨e, he⟩ : ∃ e, i - 1 = e := ⟨_, rfl⟩
                  have hdn : d < n := by omega
                  have hen : e < n := by omega
                  have hd0 : (0 : Int) ≤ (d : Int) := by omega
                  have hd1 : (d : Int) < (n : Int) := by omega
                  have he0 : (0 : Int) ≤ (e : Int) := by omega
                  have he1 : (e : Int) < (n : Int) := by omega
                  have hwd : IntKind.i64.wrap ((i : Int) - (k : Int)) = (d : Int) := by rw [IntWalk.i64_in _ (by omega)]; omega
                  have hwe : IntKind.i64.wrap ((i : Int) - 1) = (e : Int) := by rw [IntWalk.i64_in _ (by omega)]; omega
                  obtain ⟨x, hx⟩ : ∃ x, ids.getD i 0 = x := ⟨_, rfl⟩
                  obtain ⟨y, hy⟩ : ∃ y, ids.getD d 0 = y := ⟨_, rfl⟩
                  have HCX := Lib.hid (show w.cell? ⟨s, o + i, none⟩ = some (.int .i64 x) by rw [← hx]; exact HC.out i hin)
                  have HCY := Lib.hid (show w.cell? ⟨s, o + d, none⟩ = some (.int .i64 y) by rw [← hy]; exact HC.out d hdn)
                  obtain ⟨x0, xQ, x8⟩ := show 0 ≤ x ∧ x < Q ∧ x ≤ 8 by rw [← hx]; exact HBD.out i (by rw [← HL1.out]; exact hin)
                  obtain ⟨y0, yQ, y8⟩ := show 0 ≤ y ∧ y < Q ∧ y ≤ 8 by rw [← hy]; exact HBD.out d (by rw [← HL1.out]; exact hdn)
                  obtain ⟨dd, hdd⟩ : ∃ z, (x - y) % Q = z := ⟨_, rfl⟩
                  have d0 : 0 ≤ dd := by rw [← hdd]; exact Int.emod_nonneg _ (by omega)
                  have dQ : dd < Q := by rw [← hdd]; exact Int.emod_lt_of_pos _ (by omega)
                  have HDD := Lib.hid hdd
                  have HXY := Lib.hid (show (ids.getD i 0 - ids.getD (i - k) 0) % Q = dd by rw [hx, hd, hy]; exact hdd)
                  have HE := Lib.hid he
                  have HDE := Lib.hid hd
                  clear hx hy hdd he hd
                  cases hi : invF Q dd with
                  | none =>
                    obtain ⟨u, hu'⟩ : ∃ u : Int, u = 0 := ⟨_, rfl⟩
                    have HU := Lib.hid (show InvS Q dd false u by rw [hu']; exact invS_none (by omega) hi)
                    have HN := Lib.hid (show throughS Q ids vs = none from through_none (i := i) (j := i - k) (by omega) HND.out HLN.out (by rw [← HL1.out]; exact hin) (by rw [← HL1.out]; omega) (by omega) (by rw [HXY.out]; exact hi))
                    obtain ⟨rfl, rfl⟩ := Prod.mk.inj (show (6, []) = (er, rs) by rw [← HW.out]; exact (tail_none HN.out).symm)
                    clear hi hu'
                    go_wp2_with fail
                    replace F_g := Lib.hid F_g.out.drew
                    replace F_c := Lib.hid F_c.out.drew
                    replace HBW := Lib.hid HBW.out.drew
                    have hS := And.intro F_g.out.s (And.intro ((HBW.out.cell (p := ⟨s, o + i, none⟩) hs).trans HCX.out) ((HBW.out.cell (p := ⟨s, o + d, none⟩) hs).trans HCY.out))
                    refine wp_region_stage 20 (fun w' => SBox w' w.heap.size P Q G ∧ w'.cell? ⟨s, o + i, none⟩ = some (.int .i64 x) ∧ w'.cell? ⟨s, o + d, none⟩ = some (.int .i64 y)) (by kernel_rfl) ?_
                    refine wpAnyB_take (i := 0) (some 57) (Op.load 24 (Operand.tmp 3)) 24 (v := ?_) ⟨_, rfl, rfl, rfl, rfl, rfl⟩ (by kernel_rfl) (by kernel_rfl) (by kernel_rfl) [15, 16, 17, 18, 19, 20] (by kernel_rfl) (fun _ _ _ h => h) hS (fun w' hSw => ?_) ?_
                    rotate_left
                    · obtain ⟨⟨b0, b1, b2⟩, b3, b4⟩ := hSw
                      unfold bareOp
                      go_simp
                      try with_reducible rfl
                    simp only [Act.put, List.setIfInBounds_toArray, List.set_cons_zero, List.set_cons_succ]
                    refine wpAnyB_take (i := 1) (some 58) (Op.load 24 (Operand.tmp 3)) 24 (v := ?_) ⟨_, rfl, rfl, rfl, rfl, rfl⟩ (by kernel_rfl) (by kernel_rfl) (by kernel_rfl) [14, 15, 16, 17, 18, 19, 20] (by kernel_rfl) (fun _ _ _ h => h) hS (fun w' hSw => ?_) ?_
                    rotate_left
                    · obtain ⟨⟨b0, b1, b2⟩, b3, b4⟩ := hSw
                      unfold bareOp
                      go_simp
                      try with_reducible rfl
                    simp only [Act.put, List.setIfInBounds_toArray, List.set_cons_zero, List.set_cons_succ]
                    refine wpAnyB_takeP (i := 2) (some 59) (Op.move (Operand.tmp 1)) 51 (v := ?_) ⟨_, rfl, rfl, rfl, rfl, rfl⟩ (by kernel_rfl) (by kernel_rfl) (by kernel_rfl) (by kernel_rfl) (fun _ _ _ h => h) (fun _ => hS) (fun w' => ?_) ?_
                    rotate_left
                    · unfold bareOp
                      go_simp
                      try with_reducible rfl
                    simp only [Act.put, List.setIfInBounds_toArray, List.set_cons_zero, List.set_cons_succ]
                    refine wpAnyB_takeP (i := 3) (some 60) (Op.move (Operand.tmp 11)) 3 (v := ?_) ⟨_, rfl, rfl, rfl, rfl, rfl⟩ (by kernel_rfl) (by kernel_rfl) (by kernel_rfl) (by kernel_rfl) (fun _ _ _ h => h) (fun _ => hS) (fun w' => ?_) ?_
                    rotate_left
                    · unfold bareOp
                      go_simp
                      try with_reducible rfl
                    simp only [Act.put, List.setIfInBounds_toArray, List.set_cons_zero, List.set_cons_succ]
                    refine wpAnyB_takeP (i := 4) (some 61) (Op.indexAddr 51 (Operand.tmp 59) (Operand.tmp 60)) 0 (v := ?_) ⟨_, rfl, rfl, rfl, rfl, rfl⟩ (by kernel_rfl) (by kernel_rfl) (by kernel_rfl) (by kernel_rfl) (fun _ _ _ h => h) (fun _ => hS) (fun w' => ?_) ?_
                    rotate_left
                    · unfold bareOp
                      go_simp
                      try with_reducible rfl
                    simp only [Act.put, List.setIfInBounds_toArray, List.set_cons_zero, List.set_cons_succ]
                    refine wpAnyB_take (i := 5) (some 62) (Op.load 3 (Operand.tmp 61)) 3 (v := ?_) ⟨_, rfl, rfl, rfl, rfl, rfl⟩ (by kernel_rfl) (by kernel_rfl) (by kernel_rfl) [6, 14, 15, 16, 17, 18, 19, 20] (by kernel_rfl) (fun _ _ _ h => h) hS (fun w' hSw => ?_) ?_
                    rotate_left
                    · obtain ⟨⟨b0, b1, b2⟩, b3, b4⟩ := hSw
                      unfold bareOp
                      go_simp
                      try with_reducible rfl
                    simp only [Act.put, List.setIfInBounds_toArray, List.set_cons_zero, List.set_cons_succ]
                    refine wpAnyB_takeP (i := 6) (some 63) (Op.convert 3 22 (Operand.tmp 62)) 22 (v := ?_) ⟨_, rfl, rfl, rfl, rfl, rfl⟩ (by kernel_rfl) (by kernel_rfl) (by kernel_rfl) (by kernel_rfl) (fun _ _ _ h => h) (fun _ => hS) (fun w' => ?_) ?_
                    rotate_left
                    · unfold bareOp
                      go_simp
                      try with_reducible rfl
                    simp only [Act.put, List.setIfInBounds_toArray, List.set_cons_zero, List.set_cons_succ]
                    refine wpAnyB_takeP (i := 7) (some 64) (Op.move (Operand.tmp 1)) 51 (v := ?_) ⟨_, rfl, rfl, rfl, rfl, rfl⟩ (by kernel_rfl) (by kernel_rfl) (by kernel_rfl) (by kernel_rfl) (fun _ _ _ h => h) (fun _ => hS) (fun w' => ?_) ?_
                    rotate_left
                    · unfold bareOp
                      go_simp
                      try with_reducible rfl
                    simp only [Act.put, List.setIfInBounds_toArray, List.set_cons_zero, List.set_cons_succ]
                    refine wpAnyB_takeP (i := 8) (some 65) (Op.move (Operand.tmp 11)) 3 (v := ?_) ⟨_, rfl, rfl, rfl, rfl, rfl⟩ (by kernel_rfl) (by kernel_rfl) (by kernel_rfl) (by kernel_rfl) (fun _ _ _ h => h) (fun _ => hS) (fun w' => ?_) ?_
                    rotate_left
                    · unfold bareOp
                      go_simp
                      try with_reducible rfl
                    simp only [Act.put, List.setIfInBounds_toArray, List.set_cons_zero, List.set_cons_succ]
                    refine wpAnyB_takeP (i := 9) (some 66) (Op.move (Operand.tmp 10)) 3 (v := ?_) ⟨_, rfl, rfl, rfl, rfl, rfl⟩ (by kernel_rfl) (by kernel_rfl) (by kernel_rfl) (by kernel_rfl) (fun _ _ _ h => h) (fun _ => hS) (fun w' => ?_) ?_
                    rotate_left
                    · unfold bareOp
                      go_simp
                      try with_reducible rfl
                    simp only [Act.put, List.setIfInBounds_toArray, List.set_cons_zero, List.set_cons_succ]
                    refine wpAnyB_takeP (i := 10) (some 67) (Op.binOp BinOp.sub 3 (Operand.tmp 65) (Operand.tmp 66) 3) 3 (v := ?_) ⟨_, rfl, rfl, rfl, rfl, rfl⟩ (by kernel_rfl) (by kernel_rfl) (by kernel_rfl) (by kernel_rfl) (fun _ _ _ h => h) (fun _ => hS) (fun w' => ?_) ?_
                    rotate_left
                    · unfold bareOp
                      go_simp
                      try with_reducible rfl
                    simp only [Act.put, List.setIfInBounds_toArray, List.set_cons_zero, List.set_cons_succ]
                    refine wpAnyB_takeP (i := 11) (some 68) (Op.indexAddr 51 (Operand.tmp 64) (Operand.tmp 67)) 0 (v := ?_) ⟨_, rfl, rfl, rfl, rfl, rfl⟩ (by kernel_rfl) (by kernel_rfl) (by kernel_rfl) (by kernel_rfl) (fun _ _ _ h => h) (fun _ => hS) (fun w' => ?_) ?_
                    rotate_left
                    · unfold bareOp
                      go_simp
                      try with_reducible rfl
                    simp only [Act.put, List.setIfInBounds_toArray, List.set_cons_zero, List.set_cons_succ]
                    refine wpAnyB_take (i := 12) (some 69) (Op.load 3 (Operand.tmp 68)) 3 (v := ?_) ⟨_, rfl, rfl, rfl, rfl, rfl⟩ (by kernel_rfl) (by kernel_rfl) (by kernel_rfl) [13, 14, 15, 16, 17, 18, 19, 20] (by kernel_rfl) (fun _ _ _ h => h) hS (fun w' hSw => ?_) ?_
                    rotate_left
                    · obtain ⟨⟨b0, b1, b2⟩, b3, b4⟩ := hSw
                      unfold bareOp
                      go_simp
                      try with_reducible rfl
                    simp only [Act.put, List.setIfInBounds_toArray, List.set_cons_zero, List.set_cons_succ]
                    refine wpAnyB_takeP (i := 13) (some 70) (Op.convert 3 22 (Operand.tmp 69)) 22 (v := ?_) ⟨_, rfl, rfl, rfl, rfl, rfl⟩ (by kernel_rfl) (by kernel_rfl) (by kernel_rfl) (by kernel_rfl) (fun _ _ _ h => h) (fun _ => hS) (fun w' => ?_) ?_
                    rotate_left
                    · unfold bareOp
                      go_simp
                      try with_reducible rfl
                    simp only [Act.put, List.setIfInBounds_toArray, List.set_cons_zero, List.set_cons_succ]
                    refine wpAnyB_only (i := 14) (some 71) (Op.call { callee := Callee.value (Operand.func 70), args := #[Operand.tmp 58, Operand.tmp 63, Operand.tmp 70], argTypes := #[24, 22, 22] }) 22 ⟨_, rfl, rfl, rfl, rfl, rfl⟩ (by kernel_rfl) (fun K hK => ?_)
                    unfold bareOp
                    go_wp2_with (go_at_call 70; refine (sless_ok _ HH.out x0 xQ y0 yQ HDD.out).mono ?_; rintro e w8 ⟨rfl, hb8⟩)
                    replace F_g := Lib.hid (F_g.out.keep hb8)
                    replace F_c := Lib.hid (F_c.out.keep hb8)
                    replace HBW := Lib.hid (HBW.out.trans (hb8.mono HBW.out.size))
                    replace hS := And.intro F_g.out.s (And.intro ((HBW.out.cell (p := ⟨s, o + i, none⟩) hs).trans HCX.out) ((HBW.out.cell (p := ⟨s, o + d, none⟩) hs).trans HCY.out))
                    clear hb8
                    refine hK.out _ _ (fun _ => hS) ?_
                    clear hK K
                    try simp only [Act.put, List.setIfInBounds_toArray, List.set_cons_zero, List.set_cons_succ]
                    refine wpAnyB_only (i := 15) (some 72) (Op.call { callee := Callee.value (Operand.func 69), args := #[Operand.tmp 57, Operand.tmp 71], argTypes := #[24, 22] }) 39 ⟨_, rfl, rfl, rfl, rfl, rfl⟩ (by kernel_rfl) (fun K hK => ?_)
                    unfold bareOp
                    go_wp2_with (go_at_call 69; refine (invExp_ok P Q G dd u 6 false _ HH.out d0 dQ HU.out rfl).mono ?_; rintro e w8 ⟨rfl, hb8⟩)
                    replace F_g := Lib.hid (F_g.out.keep hb8)
                    replace F_c := Lib.hid (F_c.out.keep hb8)
                    replace HBW := Lib.hid (HBW.out.trans (hb8.mono HBW.out.size))
                    replace hS := And.intro F_g.out.s (And.intro ((HBW.out.cell (p := ⟨s, o + i, none⟩) hs).trans HCX.out) ((HBW.out.cell (p := ⟨s, o + d, none⟩) hs).trans HCY.out))
                    clear hb8
                    refine hK.out _ _ (fun _ => hS) ?_
                    clear hK K
                    try simp only [Act.put, List.setIfInBounds_toArray, List.set_cons_zero, List.set_cons_succ]
                    refine wpAnyB_takeP (i := 16) (some 56) (Op.move (Operand.tmp 72)) 39 (v := ?_) ⟨_, rfl, rfl, rfl, rfl, rfl⟩ (by kernel_rfl) (by kernel_rfl) (by kernel_rfl) (by kernel_rfl) (fun _ _ _ h => h) (fun _ => hS) (fun w' => ?_) ?_
                    rotate_left
                    · unfold bareOp
                      go_simp
                      try with_reducible rfl
                    simp only [Act.put, List.setIfInBounds_toArray, List.set_cons_zero, List.set_cons_succ]
                    refine wpAnyB_takeP (i := 17) (some 73) (Op.extract (Operand.tmp 56) 0) 22 (v := ?_) ⟨_, rfl, rfl, rfl, rfl, rfl⟩ (by kernel_rfl) (by kernel_rfl) (by kernel_rfl) (by kernel_rfl) (fun _ _ _ h => h) (fun _ => hS) (fun w' => ?_) ?_
                    rotate_left
                    · unfold bareOp
                      go_simp
                      try with_reducible rfl
                    simp only [Act.put, List.setIfInBounds_toArray, List.set_cons_zero, List.set_cons_succ]
                    refine wpAnyB_takeP (i := 18) (some 74) (Op.extract (Operand.tmp 56) 1) 30 (v := ?_) ⟨_, rfl, rfl, rfl, rfl, rfl⟩ (by kernel_rfl) (by kernel_rfl) (by kernel_rfl) (by kernel_rfl) (fun _ _ _ h => h) (fun _ => hS) (fun w' => ?_) ?_
                    rotate_left
                    · unfold bareOp
                      go_simp
                      try with_reducible rfl
                    simp only [Act.put, List.setIfInBounds_toArray, List.set_cons_zero, List.set_cons_succ]
                    refine wpAnyB_takeP (i := 19) (some 12) (Op.assign (Operand.tmp 73)) 22 (v := ?_) ⟨_, rfl, rfl, rfl, rfl, rfl⟩ (by kernel_rfl) (by kernel_rfl) (by kernel_rfl) (by kernel_rfl) (fun _ _ _ h => h) (fun _ => hS) (fun w' => ?_) ?_
                    rotate_left
                    · unfold bareOp
                      go_simp
                      try with_reducible rfl
                    simp only [Act.put, List.setIfInBounds_toArray, List.set_cons_zero, List.set_cons_succ]
                    refine wpAnyB_only (i := 20) (some 13) (Op.assign (Operand.tmp 74)) 30 ⟨_, rfl, rfl, rfl, rfl, rfl⟩ (by kernel_rfl) (fun K hK => ?_)
                    unfold bareOp
                    go_wp2_with fail
                    refine hK.out _ _ (fun h => absurd (h.symm.trans (by kernel_rfl : _ = true)) (by decide)) ?_
                    clear hK K
                    try simp only [Act.put, List.setIfInBounds_toArray, List.set_cons_zero, List.set_cons_succ]
                    refine wpAnyB_done (by kernel_rfl) ?_ _
                    go_wp2_with fail
                    go_ret2
                    exact ⟨_, rfl, OwnU.nil _ _, HBW.out⟩
                  | some u =>
                    have HU := Lib.hid (invS_some hi)
                    have HI := Lib.hid hi
                    obtain ⟨u0, uQ, -⟩ := invF_some hi
                    clear hi
                    go_wp2_with fail
                    replace F_g := Lib.hid F_g.out.drew
                    replace F_c := Lib.hid F_c.out.drew
                    replace HBW := Lib.hid HBW.out.drew
                    have hS := And.intro F_g.out.s (And.intro ((HBW.out.cell (p := ⟨s, o + i, none⟩) hs).trans HCX.out) ((HBW.out.cell (p := ⟨s, o + d, none⟩) hs).trans HCY.out))
                    refine wp_region_stage 20 (fun w' => SBox w' w.heap.size P Q G ∧ w'.cell? ⟨s, o + i, none⟩ = some (.int .i64 x) ∧ w'.cell? ⟨s, o + d, none⟩ = some (.int .i64 y)) (by kernel_rfl) ?_
                    refine wpAnyB_take (i := 0) (some 57) (Op.load 24 (Operand.tmp 3)) 24 (v := ?_) ⟨_, rfl, rfl, rfl, rfl, rfl⟩ (by kernel_rfl) (by kernel_rfl) (by kernel_rfl) [15, 16, 17, 18, 19, 20] (by kernel_rfl) (fun _ _ _ h => h) hS (fun w' hSw => ?_) ?_
                    rotate_left
                    · obtain ⟨⟨b0, b1, b2⟩, b3, b4⟩ := hSw
                      unfold bareOp
                      go_simp
                      try with_reducible rfl
                    simp only [Act.put, List.setIfInBounds_toArray, List.set_cons_zero, List.set_cons_succ]
                    refine wpAnyB_take (i := 1) (some 58) (Op.load 24 (Operand.tmp 3)) 24 (v := ?_) ⟨_, rfl, rfl, rfl, rfl, rfl⟩ (by kernel_rfl) (by kernel_rfl) (by kernel_rfl) [14, 15, 16, 17, 18, 19, 20] (by kernel_rfl) (fun _ _ _ h => h) hS (fun w' hSw => ?_) ?_
                    rotate_left
                    · obtain ⟨⟨b0, b1, b2⟩, b3, b4⟩ := hSw
                      unfold bareOp
                      go_simp
                      try with_reducible rfl
                    simp only [Act.put, List.setIfInBounds_toArray, List.set_cons_zero, List.set_cons_succ]
                    refine wpAnyB_takeP (i := 2) (some 59) (Op.move (Operand.tmp 1)) 51 (v := ?_) ⟨_, rfl, rfl, rfl, rfl, rfl⟩ (by kernel_rfl) (by kernel_rfl) (by kernel_rfl) (by kernel_rfl) (fun _ _ _ h => h) (fun _ => hS) (fun w' => ?_) ?_
                    rotate_left
                    · unfold bareOp
                      go_simp
                      try with_reducible rfl
                    simp only [Act.put, List.setIfInBounds_toArray, List.set_cons_zero, List.set_cons_succ]
                    refine wpAnyB_takeP (i := 3) (some 60) (Op.move (Operand.tmp 11)) 3 (v := ?_) ⟨_, rfl, rfl, rfl, rfl, rfl⟩ (by kernel_rfl) (by kernel_rfl) (by kernel_rfl) (by kernel_rfl) (fun _ _ _ h => h) (fun _ => hS) (fun w' => ?_) ?_
                    rotate_left
                    · unfold bareOp
                      go_simp
                      try with_reducible rfl
                    simp only [Act.put, List.setIfInBounds_toArray, List.set_cons_zero, List.set_cons_succ]
                    refine wpAnyB_takeP (i := 4) (some 61) (Op.indexAddr 51 (Operand.tmp 59) (Operand.tmp 60)) 0 (v := ?_) ⟨_, rfl, rfl, rfl, rfl, rfl⟩ (by kernel_rfl) (by kernel_rfl) (by kernel_rfl) (by kernel_rfl) (fun _ _ _ h => h) (fun _ => hS) (fun w' => ?_) ?_
                    rotate_left
                    · unfold bareOp
                      go_simp
                      try with_reducible rfl
                    simp only [Act.put, List.setIfInBounds_toArray, List.set_cons_zero, List.set_cons_succ]
                    refine wpAnyB_take (i := 5) (some 62) (Op.load 3 (Operand.tmp 61)) 3 (v := ?_) ⟨_, rfl, rfl, rfl, rfl, rfl⟩ (by kernel_rfl) (by kernel_rfl) (by kernel_rfl) [6, 14, 15, 16, 17, 18, 19, 20] (by kernel_rfl) (fun _ _ _ h => h) hS (fun w' hSw => ?_) ?_
                    rotate_left
                    · obtain ⟨⟨b0, b1, b2⟩, b3, b4⟩ := hSw
                      unfold bareOp
                      go_simp
                      try with_reducible rfl
                    simp only [Act.put, List.setIfInBounds_toArray, List.set_cons_zero, List.set_cons_succ]
                    refine wpAnyB_takeP (i := 6) (some 63) (Op.convert 3 22 (Operand.tmp 62)) 22 (v := ?_) ⟨_, rfl, rfl, rfl, rfl, rfl⟩ (by kernel_rfl) (by kernel_rfl) (by kernel_rfl) (by kernel_rfl) (fun _ _ _ h => h) (fun _ => hS) (fun w' => ?_) ?_
                    rotate_left
                    · unfold bareOp
                      go_simp
                      try with_reducible rfl
                    simp only [Act.put, List.setIfInBounds_toArray, List.set_cons_zero, List.set_cons_succ]
                    refine wpAnyB_takeP (i := 7) (some 64) (Op.move (Operand.tmp 1)) 51 (v := ?_) ⟨_, rfl, rfl, rfl, rfl, rfl⟩ (by kernel_rfl) (by kernel_rfl) (by kernel_rfl) (by kernel_rfl) (fun _ _ _ h => h) (fun _ => hS) (fun w' => ?_) ?_
                    rotate_left
                    · unfold bareOp
                      go_simp
                      try with_reducible rfl
                    simp only [Act.put, List.setIfInBounds_toArray, List.set_cons_zero, List.set_cons_succ]
                    refine wpAnyB_takeP (i := 8) (some 65) (Op.move (Operand.tmp 11)) 3 (v := ?_) ⟨_, rfl, rfl, rfl, rfl, rfl⟩ (by kernel_rfl) (by kernel_rfl) (by kernel_rfl) (by kernel_rfl) (fun _ _ _ h => h) (fun _ => hS) (fun w' => ?_) ?_
                    rotate_left
                    · unfold bareOp
                      go_simp
                      try with_reducible rfl
                    simp only [Act.put, List.setIfInBounds_toArray, List.set_cons_zero, List.set_cons_succ]
                    refine wpAnyB_takeP (i := 9) (some 66) (Op.move (Operand.tmp 10)) 3 (v := ?_) ⟨_, rfl, rfl, rfl, rfl, rfl⟩ (by kernel_rfl) (by kernel_rfl) (by kernel_rfl) (by kernel_rfl) (fun _ _ _ h => h) (fun _ => hS) (fun w' => ?_) ?_
                    rotate_left
                    · unfold bareOp
                      go_simp
                      try with_reducible rfl
                    simp only [Act.put, List.setIfInBounds_toArray, List.set_cons_zero, List.set_cons_succ]
                    refine wpAnyB_takeP (i := 10) (some 67) (Op.binOp BinOp.sub 3 (Operand.tmp 65) (Operand.tmp 66) 3) 3 (v := ?_) ⟨_, rfl, rfl, rfl, rfl, rfl⟩ (by kernel_rfl) (by kernel_rfl) (by kernel_rfl) (by kernel_rfl) (fun _ _ _ h => h) (fun _ => hS) (fun w' => ?_) ?_
                    rotate_left
                    · unfold bareOp
                      go_simp
                      try with_reducible rfl
                    simp only [Act.put, List.setIfInBounds_toArray, List.set_cons_zero, List.set_cons_succ]
                    refine wpAnyB_takeP (i := 11) (some 68) (Op.indexAddr 51 (Operand.tmp 64) (Operand.tmp 67)) 0 (v := ?_) ⟨_, rfl, rfl, rfl, rfl, rfl⟩ (by kernel_rfl) (by kernel_rfl) (by kernel_rfl) (by kernel_rfl) (fun _ _ _ h => h) (fun _ => hS) (fun w' => ?_) ?_
                    rotate_left
                    · unfold bareOp
                      go_simp
                      try with_reducible rfl
                    simp only [Act.put, List.setIfInBounds_toArray, List.set_cons_zero, List.set_cons_succ]
                    refine wpAnyB_take (i := 12) (some 69) (Op.load 3 (Operand.tmp 68)) 3 (v := ?_) ⟨_, rfl, rfl, rfl, rfl, rfl⟩ (by kernel_rfl) (by kernel_rfl) (by kernel_rfl) [13, 14, 15, 16, 17, 18, 19, 20] (by kernel_rfl) (fun _ _ _ h => h) hS (fun w' hSw => ?_) ?_
                    rotate_left
                    · obtain ⟨⟨b0, b1, b2⟩, b3, b4⟩ := hSw
                      unfold bareOp
                      go_simp
                      try with_reducible rfl
                    simp only [Act.put, List.setIfInBounds_toArray, List.set_cons_zero, List.set_cons_succ]
                    refine wpAnyB_takeP (i := 13) (some 70) (Op.convert 3 22 (Operand.tmp 69)) 22 (v := ?_) ⟨_, rfl, rfl, rfl, rfl, rfl⟩ (by kernel_rfl) (by kernel_rfl) (by kernel_rfl) (by kernel_rfl) (fun _ _ _ h => h) (fun _ => hS) (fun w' => ?_) ?_
                    rotate_left
                    · unfold bareOp
                      go_simp
                      try with_reducible rfl
                    simp only [Act.put, List.setIfInBounds_toArray, List.set_cons_zero, List.set_cons_succ]
                    refine wpAnyB_only (i := 14) (some 71) (Op.call { callee := Callee.value (Operand.func 70), args := #[Operand.tmp 58, Operand.tmp 63, Operand.tmp 70], argTypes := #[24, 22, 22] }) 22 ⟨_, rfl, rfl, rfl, rfl, rfl⟩ (by kernel_rfl) (fun K hK => ?_)
                    unfold bareOp
                    go_wp2_with (go_at_call 70; refine (sless_ok _ HH.out x0 xQ y0 yQ HDD.out).mono ?_; rintro e w8 ⟨rfl, hb8⟩)
                    replace F_g := Lib.hid (F_g.out.keep hb8)
                    replace F_c := Lib.hid (F_c.out.keep hb8)
                    replace HBW := Lib.hid (HBW.out.trans (hb8.mono HBW.out.size))
                    replace hS := And.intro F_g.out.s (And.intro ((HBW.out.cell (p := ⟨s, o + i, none⟩) hs).trans HCX.out) ((HBW.out.cell (p := ⟨s, o + d, none⟩) hs).trans HCY.out))
                    clear hb8
                    refine hK.out _ _ (fun _ => hS) ?_
                    clear hK K
                    try simp only [Act.put, List.setIfInBounds_toArray, List.set_cons_zero, List.set_cons_succ]
                    refine wpAnyB_only (i := 15) (some 72) (Op.call { callee := Callee.value (Operand.func 69), args := #[Operand.tmp 57, Operand.tmp 71], argTypes := #[24, 22] }) 39 ⟨_, rfl, rfl, rfl, rfl, rfl⟩ (by kernel_rfl) (fun K hK => ?_)
                    unfold bareOp
                    go_wp2_with (go_at_call 69; refine (invExp_ok P Q G dd u 0 true _ HH.out d0 dQ HU.out rfl).mono ?_; rintro e w8 ⟨rfl, hb8⟩)
                    replace F_g := Lib.hid (F_g.out.keep hb8)
                    replace F_c := Lib.hid (F_c.out.keep hb8)
                    replace HBW := Lib.hid (HBW.out.trans (hb8.mono HBW.out.size))
                    replace hS := And.intro F_g.out.s (And.intro ((HBW.out.cell (p := ⟨s, o + i, none⟩) hs).trans HCX.out) ((HBW.out.cell (p := ⟨s, o + d, none⟩) hs).trans HCY.out))
                    clear hb8
                    refine hK.out _ _ (fun _ => hS) ?_
                    clear hK K
                    try simp only [Act.put, List.setIfInBounds_toArray, List.set_cons_zero, List.set_cons_succ]
                    refine wpAnyB_takeP (i := 16) (some 56) (Op.move (Operand.tmp 72)) 39 (v := ?_) ⟨_, rfl, rfl, rfl, rfl, rfl⟩ (by kernel_rfl) (by kernel_rfl) (by kernel_rfl) (by kernel_rfl) (fun _ _ _ h => h) (fun _ => hS) (fun w' => ?_) ?_
                    rotate_left
                    · unfold bareOp
                      go_simp
                      try with_reducible rfl
                    simp only [Act.put, List.setIfInBounds_toArray, List.set_cons_zero, List.set_cons_succ]
                    refine wpAnyB_takeP (i := 17) (some 73) (Op.extract (Operand.tmp 56) 0) 22 (v := ?_) ⟨_, rfl, rfl, rfl, rfl, rfl⟩ (by kernel_rfl) (by kernel_rfl) (by kernel_rfl) (by kernel_rfl) (fun _ _ _ h => h) (fun _ => hS) (fun w' => ?_) ?_
                    rotate_left
                    · unfold bareOp
                      go_simp
                      try with_reducible rfl
                    simp only [Act.put, List.setIfInBounds_toArray, List.set_cons_zero, List.set_cons_succ]
                    refine wpAnyB_takeP (i := 18) (some 74) (Op.extract (Operand.tmp 56) 1) 30 (v := ?_) ⟨_, rfl, rfl, rfl, rfl, rfl⟩ (by kernel_rfl) (by kernel_rfl) (by kernel_rfl) (by kernel_rfl) (fun _ _ _ h => h) (fun _ => hS) (fun w' => ?_) ?_
                    rotate_left
                    · unfold bareOp
                      go_simp
                      try with_reducible rfl
                    simp only [Act.put, List.setIfInBounds_toArray, List.set_cons_zero, List.set_cons_succ]
                    refine wpAnyB_takeP (i := 19) (some 12) (Op.assign (Operand.tmp 73)) 22 (v := ?_) ⟨_, rfl, rfl, rfl, rfl, rfl⟩ (by kernel_rfl) (by kernel_rfl) (by kernel_rfl) (by kernel_rfl) (fun _ _ _ h => h) (fun _ => hS) (fun w' => ?_) ?_
                    rotate_left
                    · unfold bareOp
                      go_simp
                      try with_reducible rfl
                    simp only [Act.put, List.setIfInBounds_toArray, List.set_cons_zero, List.set_cons_succ]
                    refine wpAnyB_only (i := 20) (some 13) (Op.assign (Operand.tmp 74)) 30 ⟨_, rfl, rfl, rfl, rfl, rfl⟩ (by kernel_rfl) (fun K hK => ?_)
                    unfold bareOp
                    go_wp2_with fail
                    refine hK.out _ _ (fun h => absurd (h.symm.trans (by kernel_rfl : _ = true)) (by decide)) ?_
                    clear hK K
                    try simp only [Act.put, List.setIfInBounds_toArray, List.set_cons_zero, List.set_cons_succ]
                    refine wpAnyB_done (by kernel_rfl) ?_ _
                    clear hS
                    obtain ⟨ci, hci⟩ : ∃ z, cs.getD i 0 = z := ⟨_, rfl⟩
                    obtain ⟨ce, hce⟩ : ∃ z, cs.getD e 0 = z := ⟨_, rfl⟩
                    obtain ⟨ci0, ciQ⟩ := show 0 ≤ ci ∧ ci < Q by rw [← hci]; exact getD_rng (by omega) HD.out.rng i
                    obtain ⟨ce0, ceQ⟩ := show 0 ≤ ce ∧ ce < Q by rw [← hce]; exact getD_rng (by omega) HD.out.rng e
                    obtain ⟨t1, ht1⟩ : ∃ z, (ci - ce) % Q = z := ⟨_, rfl⟩
                    have t0 : 0 ≤ t1 := by rw [← ht1]; exact Int.emod_nonneg _ (by omega)
                    have tQ : t1 < Q := by rw [← ht1]; exact Int.emod_lt_of_pos _ (by omega)
                    obtain ⟨t2, ht2⟩ : ∃ z, t1 * u % Q = z := ⟨_, rfl⟩
                    have HCI := Lib.hid hci
                    have HCE := Lib.hid hce
                    have HT1 := Lib.hid ht1
                    have HT2 := Lib.hid ht2
                    have HST := Lib.hid (show DifS Q ids vs k e (cs.set i t2) by
                      have := HD.out.step (by omega) k1 hge (by rw [← HL1.out]; exact hin) (u := u) (by rw [HXY.out]; exact HI.out)
                      rwa [HE.out, hci, hce, ht1, ht2] at this)
                    clear hci hce ht1 ht2
                    go_wp2_with fail
                    replace F_g := Lib.hid F_g.out.drew
                    replace F_c := Lib.hid F_c.out.drew
                    replace HBW := Lib.hid HBW.out.drew
                    have hS := And.intro F_g.out.s (And.intro ((F_c.out.at hin).trans (congrArg (fun z => some (Value.int IntKind.u64 z)) HCI.out)) ((F_c.out.at hen).trans (congrArg (fun z => some (Value.int IntKind.u64 z)) HCE.out)))
                    refine wp_region_stage 17 (fun w' => SBox w' w.heap.size P Q G ∧ w'.cell? ⟨gc, i, none⟩ = some (.int .u64 ci) ∧ w'.cell? ⟨gc, e, none⟩ = some (.int .u64 ce)) (by kernel_rfl) ?_
                    refine wpAnyB_takeP (i := 0) (some 78) (Op.move (Operand.tmp 9)) 25 (v := ?_) ⟨_, rfl, rfl, rfl, rfl, rfl⟩ (by kernel_rfl) (by kernel_rfl) (by kernel_rfl) (by kernel_rfl) (fun _ _ _ h => h) (fun _ => hS) (fun w' => ?_) ?_
                    rotate_left
                    · unfold bareOp
                      go_simp
                      try with_reducible rfl
                    simp only [Act.put, List.setIfInBounds_toArray, List.set_cons_zero, List.set_cons_succ]
                    refine wpAnyB_takeP (i := 1) (some 79) (Op.move (Operand.tmp 11)) 3 (v := ?_) ⟨_, rfl, rfl, rfl, rfl, rfl⟩ (by kernel_rfl) (by kernel_rfl) (by kernel_rfl) (by kernel_rfl) (fun _ _ _ h => h) (fun _ => hS) (fun w' => ?_) ?_
                    rotate_left
                    · unfold bareOp
                      go_simp
                      try with_reducible rfl
                    simp only [Act.put, List.setIfInBounds_toArray, List.set_cons_zero, List.set_cons_succ]
                    refine wpAnyB_take (i := 2) (some 80) (Op.load 24 (Operand.tmp 3)) 24 (v := ?_) ⟨_, rfl, rfl, rfl, rfl, rfl⟩ (by kernel_rfl) (by kernel_rfl) (by kernel_rfl) [15, 16, 17] (by kernel_rfl) (fun _ _ _ h => h) hS (fun w' hSw => ?_) ?_
                    rotate_left
                    · obtain ⟨⟨b0, b1, b2⟩, b3, b4⟩ := hSw
                      unfold bareOp
                      go_simp
                      try with_reducible rfl
                    simp only [Act.put, List.setIfInBounds_toArray, List.set_cons_zero, List.set_cons_succ]
                    refine wpAnyB_take (i := 3) (some 81) (Op.load 24 (Operand.tmp 3)) 24 (v := ?_) ⟨_, rfl, rfl, rfl, rfl, rfl⟩ (by kernel_rfl) (by kernel_rfl) (by kernel_rfl) [13, 15, 16, 17] (by kernel_rfl) (fun _ _ _ h => h) hS (fun w' hSw => ?_) ?_
                    rotate_left
                    · obtain ⟨⟨b0, b1, b2⟩, b3, b4⟩ := hSw
                      unfold bareOp
                      go_simp
                      try with_reducible rfl
                    simp only [Act.put, List.setIfInBounds_toArray, List.set_cons_zero, List.set_cons_succ]
                    refine wpAnyB_takeP (i := 4) (some 82) (Op.move (Operand.tmp 9)) 25 (v := ?_) ⟨_, rfl, rfl, rfl, rfl, rfl⟩ (by kernel_rfl) (by kernel_rfl) (by kernel_rfl) (by kernel_rfl) (fun _ _ _ h => h) (fun _ => hS) (fun w' => ?_) ?_
                    rotate_left
                    · unfold bareOp
                      go_simp
                      try with_reducible rfl
                    simp only [Act.put, List.setIfInBounds_toArray, List.set_cons_zero, List.set_cons_succ]
                    refine wpAnyB_takeP (i := 5) (some 83) (Op.move (Operand.tmp 11)) 3 (v := ?_) ⟨_, rfl, rfl, rfl, rfl, rfl⟩ (by kernel_rfl) (by kernel_rfl) (by kernel_rfl) (by kernel_rfl) (fun _ _ _ h => h) (fun _ => hS) (fun w' => ?_) ?_
                    rotate_left
                    · unfold bareOp
                      go_simp
                      try with_reducible rfl
                    simp only [Act.put, List.setIfInBounds_toArray, List.set_cons_zero, List.set_cons_succ]
                    refine wpAnyB_takeP (i := 6) (some 84) (Op.indexAddr 25 (Operand.tmp 82) (Operand.tmp 83)) 0 (v := ?_) ⟨_, rfl, rfl, rfl, rfl, rfl⟩ (by kernel_rfl) (by kernel_rfl) (by kernel_rfl) (by kernel_rfl) (fun _ _ _ h => h) (fun _ => hS) (fun w' => ?_) ?_
                    rotate_left
                    · unfold bareOp
                      go_simp
                      try with_reducible rfl
                    simp only [Act.put, List.setIfInBounds_toArray, List.set_cons_zero, List.set_cons_succ]
                    refine wpAnyB_take (i := 7) (some 85) (Op.load 22 (Operand.tmp 84)) 22 (v := ?_) ⟨_, rfl, rfl, rfl, rfl, rfl⟩ (by kernel_rfl) (by kernel_rfl) (by kernel_rfl) [13, 15, 16, 17] (by kernel_rfl) (fun _ _ _ h => h) hS (fun w' hSw => ?_) ?_
                    rotate_left
                    · obtain ⟨⟨b0, b1, b2⟩, b3, b4⟩ := hSw
                      unfold bareOp
                      go_simp
                      try with_reducible rfl
                    simp only [Act.put, List.setIfInBounds_toArray, List.set_cons_zero, List.set_cons_succ]
                    refine wpAnyB_takeP (i := 8) (some 86) (Op.move (Operand.tmp 9)) 25 (v := ?_) ⟨_, rfl, rfl, rfl, rfl, rfl⟩ (by kernel_rfl) (by kernel_rfl) (by kernel_rfl) (by kernel_rfl) (fun _ _ _ h => h) (fun _ => hS) (fun w' => ?_) ?_
                    rotate_left
                    · unfold bareOp
                      go_simp
                      try with_reducible rfl
                    simp only [Act.put, List.setIfInBounds_toArray, List.set_cons_zero, List.set_cons_succ]
                    refine wpAnyB_takeP (i := 9) (some 87) (Op.move (Operand.tmp 11)) 3 (v := ?_) ⟨_, rfl, rfl, rfl, rfl, rfl⟩ (by kernel_rfl) (by kernel_rfl) (by kernel_rfl) (by kernel_rfl) (fun _ _ _ h => h) (fun _ => hS) (fun w' => ?_) ?_
                    rotate_left
                    · unfold bareOp
                      go_simp
                      try with_reducible rfl
                    simp only [Act.put, List.setIfInBounds_toArray, List.set_cons_zero, List.set_cons_succ]
                    refine wpAnyB_takeP (i := 10) (some 88) (Op.binOp BinOp.sub 3 (Operand.tmp 87) (Operand.const (Value.int IntKind.i64 1)) 3) 3 (v := ?_) ⟨_, rfl, rfl, rfl, rfl, rfl⟩ (by kernel_rfl) (by kernel_rfl) (by kernel_rfl) (by kernel_rfl) (fun _ _ _ h => h) (fun _ => hS) (fun w' => ?_) ?_
                    rotate_left
                    · unfold bareOp
                      go_simp
                      try with_reducible rfl
                    simp only [Act.put, List.setIfInBounds_toArray, List.set_cons_zero, List.set_cons_succ]
                    refine wpAnyB_takeP (i := 11) (some 89) (Op.indexAddr 25 (Operand.tmp 86) (Operand.tmp 88)) 0 (v := ?_) ⟨_, rfl, rfl, rfl, rfl, rfl⟩ (by kernel_rfl) (by kernel_rfl) (by kernel_rfl) (by kernel_rfl) (fun _ _ _ h => h) (fun _ => hS) (fun w' => ?_) ?_
                    rotate_left
                    · unfold bareOp
                      go_simp
                      try with_reducible rfl
                    simp only [Act.put, List.setIfInBounds_toArray, List.set_cons_zero, List.set_cons_succ]
                    refine wpAnyB_take (i := 12) (some 90) (Op.load 22 (Operand.tmp 89)) 22 (v := ?_) ⟨_, rfl, rfl, rfl, rfl, rfl⟩ (by kernel_rfl) (by kernel_rfl) (by kernel_rfl) [13, 15, 16, 17] (by kernel_rfl) (fun _ _ _ h => h) hS (fun w' hSw => ?_) ?_
                    rotate_left
                    · obtain ⟨⟨b0, b1, b2⟩, b3, b4⟩ := hSw
                      unfold bareOp
                      go_simp
                      try with_reducible rfl
                    simp only [Act.put, List.setIfInBounds_toArray, List.set_cons_zero, List.set_cons_succ]
                    refine wpAnyB_takeP (i := 14) (some 92) (Op.move (Operand.tmp 12)) 22 (v := ?_) ⟨_, rfl, rfl, rfl, rfl, rfl⟩ (by kernel_rfl) (by kernel_rfl) (by kernel_rfl) (by kernel_rfl) (fun _ _ _ h => h) (fun _ => hS) (fun w' => ?_) ?_
                    rotate_left
                    · unfold bareOp
                      go_simp
                      try with_reducible rfl
                    simp only [Act.put, List.setIfInBounds_toArray, List.set_cons_zero, List.set_cons_succ]
                    refine wpAnyB_only (i := 13) (some 91) (Op.call { callee := Callee.value (Operand.func 70), args := #[Operand.tmp 81, Operand.tmp 85, Operand.tmp 90], argTypes := #[24, 22, 22] }) 22 ⟨_, rfl, rfl, rfl, rfl, rfl⟩ (by kernel_rfl) (fun K hK => ?_)
                    unfold bareOp
                    go_wp2_with (go_at_call 70; refine (sless_ok _ HH.out ci0 ciQ ce0 ceQ HT1.out).mono ?_; rintro e w8 ⟨rfl, hb8⟩)
                    replace F_g := Lib.hid (F_g.out.keep hb8)
                    replace F_c := Lib.hid (F_c.out.keep hb8)
                    replace HBW := Lib.hid (HBW.out.trans (hb8.mono HBW.out.size))
                    replace hS := And.intro F_g.out.s (And.intro ((F_c.out.at hin).trans (congrArg (fun z => some (Value.int IntKind.u64 z)) HCI.out)) ((F_c.out.at hen).trans (congrArg (fun z => some (Value.int IntKind.u64 z)) HCE.out)))
                    clear hb8
                    refine hK.out _ _ (fun _ => hS) ?_
                    clear hK K
                    try simp only [Act.put, List.setIfInBounds_toArray, List.set_cons_zero, List.set_cons_succ]
                    refine wpAnyB_only (i := 15) (some 93) (Op.call { callee := Callee.value (Operand.func 71), args := #[Operand.tmp 80, Operand.tmp 91, Operand.tmp 92], argTypes := #[24, 22, 22] }) 22 ⟨_, rfl, rfl, rfl, rfl, rfl⟩ (by kernel_rfl) (fun K hK => ?_)
                    unfold bareOp
                    go_wp2_with (go_at_call 71; refine (stimes_ok _ HH.out t0 tQ u0 uQ HT2.out).mono ?_; rintro e w8 ⟨rfl, hb8⟩)
                    replace F_g := Lib.hid (F_g.out.keep hb8)
                    replace F_c := Lib.hid (F_c.out.keep hb8)
                    replace HBW := Lib.hid (HBW.out.trans (hb8.mono HBW.out.size))
                    replace hS := And.intro F_g.out.s (And.intro ((F_c.out.at hin).trans (congrArg (fun z => some (Value.int IntKind.u64 z)) HCI.out)) ((F_c.out.at hen).trans (congrArg (fun z => some (Value.int IntKind.u64 z)) HCE.out)))
                    clear hb8
                    refine hK.out _ _ (fun _ => hS) ?_
                    clear hK K
                    try simp only [Act.put, List.setIfInBounds_toArray, List.set_cons_zero, List.set_cons_succ]
                    refine wpAnyB_takeP (i := 16) (some 94) (Op.indexAddr 25 (Operand.tmp 78) (Operand.tmp 79)) 0 (v := ?_) ⟨_, rfl, rfl, rfl, rfl, rfl⟩ (by kernel_rfl) (by kernel_rfl) (by kernel_rfl) (by kernel_rfl) (fun _ _ _ h => h) (fun _ => hS) (fun w' => ?_) ?_
                    rotate_left
                    · unfold bareOp
                      go_simp
                      try with_reducible rfl
                    simp only [Act.put, List.setIfInBounds_toArray, List.set_cons_zero, List.set_cons_succ]
                    refine wpAnyB_only (i := 17) none (Op.store 22 (Operand.tmp 94) (Operand.tmp 93)) 0 ⟨_, rfl, rfl, rfl, rfl, rfl⟩ (by kernel_rfl) (fun K hK => ?_)
                    unfold bareOp
                    have hcs := hS.2.1
                    have hfs := F_c.out.fz i
                    go_wp2_with fail
                    refine hK.out _ _ (fun h => absurd (h.symm.trans (by kernel_rfl : _ = true)) (by decide)) ?_
                    clear hK K
                    try simp only [Act.put, List.setIfInBounds_toArray, List.set_cons_zero, List.set_cons_succ]
                    refine wpAnyB_done (by kernel_rfl) ?_ _
                    replace F_g := Lib.hid (F_g.out.far (c := gc) (o := i) (by omega) (.int .u64 t2))
                    replace F_c := Lib.hid (F_c.out.set (k := i) t2)
                    replace HBW := Lib.hid (HBW.out.setCell (p := ⟨gc, i, none⟩) (by show w.heap.size ≤ gc; omega) (.int .u64 t2))
                    clear hS
                    go_wp2_with fail
                    go_roundw
                    case rel => exact ⟨e, by have := HE.out; omega, hen, rfl, _, HST.out, F_c.out, F_g.out, HBW.out⟩
                    case measure => have := HE.out; simp [intOf]; omega
            case neg =>
              have hkn : (n : Int) ≤ (k : Int) := by omega
              obtain ⟨r, hr1, hr2, hr3, hr4⟩ := DifS.over (by omega) HND.out HLN.out (by rw [← HL1.out]; omega) (show DifS Q ids vs k (ids.length - 1) cs by rw [← HL1.out]; exact HD.out)
              obtain ⟨rfl, rfl⟩ := Prod.mk.inj (show (0, r) = (er, rs) by rw [← HW.out]; exact (tail_some hr1).symm)
              have HR2 := Lib.hid hr2
              have HR3 := Lib.hid hr3
              have HR4 := Lib.hid hr4
              have HCR := Lib.hid HD.out.rng
              clear hr1 hr2 hr3 hr4
              obtain ⟨i0, hi, hz0, hz1, hz2⟩ := info_parts (P := Try.prog) (e := 22) (z := .int .u64 0) (size := 1) (bytes := 8) (by kernel_rfl)
              have hgl := F_c.out.lt.2
              go_wp2_with (at_make; refine wpList_make_full _ rfl _ _ 25 rfl (w.heap.size + 1) 22 i0 (.int .u64 0) 1 Try.underlying25 hi hz0 hz1 _ _ _ _ n rfl rfl rfl rfl (by rw [hz2]; omega) (by unfold maxLen; omega) (Nat.succ_le_of_lt F_g.out.lt) ?_; intro w5 hown hgr; have HOWN := Lib.hid hown; have HGR := Lib.hid hgr; clear hown hgr)
              have hb5 := Below.row (n := wo.heap.size) HGR.out (fun j hj => by cases hj) (Nat.le_refl _)
              have hgo := F_g.out.lt
              have hne : gc ≠ wo.heap.size := by omega
              have F_o := Lib.hid (OwnN.made HOWN.out)
              replace F_c := Lib.hid (F_c.out.keep hb5)
              replace F_g := Lib.hid (F_g.out.keep hb5)
              replace HBW := Lib.hid (HBW.out.trans (hb5.mono HBW.out.size))
              clear hb5 HOWN HGR hi hz0 hz1 hz2 i0 HD
              go_loopw [15, 16] (fun c15 c16 wr => ∃ j : Nat, j ≤ n ∧ c15 = .int .i64 ((j : Int) - 1) ∧ ∃ os : List Int, Hid (OutS Q ids r j os) ∧ Hid (OwnN wr (w.heap.size + 1) wo.heap.size n n os) ∧ Hid (OwnN wr (w.heap.size + 1) gc n cap cs) ∧ Hid (Boxed wr w.heap.size P Q G) ∧ Hid (Below w.heap.size w wr)) (fun c15 _ _ => (intOf c15 + 1).toNat)
              case atStart => exact ⟨n, Nat.le_refl _, rfl, List.replicate n 0, (show OutS Q ids r n (List.replicate n 0) by rw [HL1.out]; exact OutS.start (by omega) HR2.out), F_o.out, F_c.out, F_g.out, HBW.out⟩
              case round =>
                clear F_g F_c F_o HBW
                obtain ⟨j, hj, hc15, os, HO, F_o, F_c, F_g, HBW⟩ := hrel
                by_cases hj0 : j = 0
                case pos =>
                  subst hj0
                  have hc16 := hc15.trans (show Value.int IntKind.i64 (((0 : Nat) : Int) - 1) = .int .i64 (-1) from rfl)
                  clear hc15
                  subst hc16
                  have HZ := Lib.hid (show OwnU _ w.heap.size (.slice (some ⟨wo.heap.size, 0, none⟩) n n) r by rw [← HO.out.done HR2.out HR3.out]; exact F_o.out.own.mono (Nat.le_succ _))
                  go_wp2_with fail
                  go_ret2
                  exact ⟨_, rfl, HZ.out, HBW.out⟩
                case neg =>
                  obtain ⟨i, rfl⟩ : ∃ i, j = i + 1 := ⟨j - 1, by omega⟩
                  have hc16 := hc15.trans (show Value.int IntKind.i64 (((i + 1 : Nat) : Int) - 1) = .int .i64 (i : Int) from congrArg _ (by omega))
                  clear hc15
                  subst hc16
                  have hin : i < n := by omega
                  have hi0 : (0 : Int) ≤ (i : Int) := by omega
                  have hi1 : (i : Int) < (n : Int) := by omega
                  have hwi : IntKind.i64.wrap ((i : Int) - 1) = (i : Int) - 1 := IntWalk.i64_in _ (by omega)
                  obtain ⟨x, hx⟩ : ∃ x, ids.getD i 0 = x := ⟨_, rfl⟩
                  have HCX := Lib.hid (show w.cell? ⟨s, o + i, none⟩ = some (.int .i64 x) by rw [← hx]; exact HC.out i hin)
                  obtain ⟨x0, xQ, x8⟩ := show 0 ≤ x ∧ x < Q ∧ x ≤ 8 by rw [← hx]; exact HBD.out i (by rw [← HL1.out]; exact hin)
                  have HXI := Lib.hid hx
                  clear hx hj0
                  go_wp2_with fail
                  go_loopw [16] (fun c16 wr => ∃ m : Nat, m < n ∧ c16 = .int .i64 m ∧ ∃ o2 : List Int, Hid (InB Q x n os m o2) ∧ Hid (OwnN wr (w.heap.size + 1) wo.heap.size n n o2) ∧ Hid (OwnN wr (w.heap.size + 1) gc n cap cs) ∧ Hid (Boxed wr w.heap.size P Q G) ∧ Hid (Below w.heap.size w wr)) (fun c16 _ => (intOf c16).toNat)
                  case atStart => exact ⟨n - 1, by omega, congrArg _ (by omega), os, InB.start (HO.out.1.trans HL1.out.symm), F_o.out, F_c.out, F_g.out, HBW.out⟩
                  case round =>
                    clear F_g F_c F_o HBW
                    obtain ⟨m, hmn, rfl, o2, HI, F_o, F_c, F_g, HBW⟩ := hrel
                    have HRG := Lib.hid (HI.out.rng (by omega) HO.out.2.1)
                    obtain ⟨q1, hq1⟩ : ∃ z, o2.getD m 0 = z := ⟨_, rfl⟩
                    obtain ⟨q10, q1Q⟩ := show 0 ≤ q1 ∧ q1 < Q by rw [← hq1]; exact HRG.out m
                    obtain ⟨t1, ht1⟩ : ∃ z, q1 * x % Q = z := ⟨_, rfl⟩
                    have t0 : 0 ≤ t1 := by rw [← ht1]; exact Int.emod_nonneg _ (by omega)
                    have tQ : t1 < Q := by rw [← ht1]; exact Int.emod_lt_of_pos _ (by omega)
                    have hm0 : (0 : Int) ≤ (m : Int) := by omega
                    have hm1' : (m : Int) < (n : Int) := by omega
                    by_cases hmz : m = 0
                    case pos =>
                      subst hmz
                      have hn0 : 0 < n := by omega
                      have hn0' : (0 : Int) < (n : Int) := by omega
                      obtain ⟨ci, hci⟩ : ∃ z, cs.getD i 0 = z := ⟨_, rfl⟩
                      obtain ⟨ci0, ciQ⟩ := show 0 ≤ ci ∧ ci < Q by rw [← hci]; exact getD_rng (by omega) HCR.out i
                      obtain ⟨t2, ht2⟩ : ∃ z, (0 - t1) % Q = z := ⟨_, rfl⟩
                      have t20 : 0 ≤ t2 := by rw [← ht2]; exact Int.emod_nonneg _ (by omega)
                      have t2Q : t2 < Q := by rw [← ht2]; exact Int.emod_lt_of_pos _ (by omega)
                      obtain ⟨t3, ht3⟩ : ∃ z, (ci + t2) % Q = z := ⟨_, rfl⟩
                      have HCI := Lib.hid hci
                      have HQ1 := Lib.hid hq1
                      have HT1 := Lib.hid ht1
                      have HT2 := Lib.hid ht2
                      have HT3 := Lib.hid ht3
                      have HST := Lib.hid (show OutS Q ids r i (o2.set 0 t3) by
                        have := InB.last (ci := ci) (by omega) (by rw [← HL1.out]; exact hin) HR2.out HO.out (by rw [← hci]; exact HR4.out i (by rw [← HL1.out]; exact hin)) (by rw [HXI.out, ← HL1.out]; exact HI.out)
                        rwa [HXI.out, hq1, ht1, ht2, ht3] at this)
                      clear hci hq1 ht1 ht2 ht3
                      go_wp2_with fail
                      replace F_g := Lib.hid F_g.out.drew
                      replace F_c := Lib.hid F_c.out.drew
                      replace F_o := Lib.hid F_o.out.drew
                      replace HBW := Lib.hid HBW.out.drew
                      have hS := And.intro F_g.out.s (And.intro ((F_c.out.at hin).trans (congrArg (fun z => some (Value.int IntKind.u64 z)) HCI.out)) (And.intro ((F_o.out.at hn0).trans (congrArg (fun z => some (Value.int IntKind.u64 z)) HQ1.out)) ((HBW.out.cell (p := ⟨s, o + i, none⟩) hs).trans HCX.out)))
                      refine wp_region_stage 20 (fun w' => SBox w' w.heap.size P Q G ∧ w'.cell? ⟨gc, i, none⟩ = some (.int .u64 ci) ∧ w'.cell? ⟨wo.heap.size, 0, none⟩ = some (.int .u64 q1) ∧ w'.cell? ⟨s, o + i, none⟩ = some (.int .i64 x)) (by kernel_rfl) ?_
                      refine wpAnyB_takeP (i := 0) (some 133) (Op.move (Operand.tmp 14)) 25 (v := ?_) ⟨_, rfl, rfl, rfl, rfl, rfl⟩ (by kernel_rfl) (by kernel_rfl) (by kernel_rfl) (by kernel_rfl) (fun _ _ _ h => h) (fun _ => hS) (fun w' => ?_) ?_
                      rotate_left
                      · unfold bareOp
                        go_simp
                        try with_reducible rfl
                      simp only [Act.put, List.setIfInBounds_toArray, List.set_cons_zero, List.set_cons_succ]
                      refine wpAnyB_take (i := 1) (some 134) (Op.load 24 (Operand.tmp 3)) 24 (v := ?_) ⟨_, rfl, rfl, rfl, rfl, rfl⟩ (by kernel_rfl) (by kernel_rfl) (by kernel_rfl) [18, 19, 20] (by kernel_rfl) (fun _ _ _ h => h) hS (fun w' hSw => ?_) ?_
                      rotate_left
                      · obtain ⟨⟨b0, b1, b2⟩, b3, b4, b5⟩ := hSw
                        unfold bareOp
                        go_simp
                        try with_reducible rfl
                      simp only [Act.put, List.setIfInBounds_toArray, List.set_cons_zero, List.set_cons_succ]
                      refine wpAnyB_takeP (i := 2) (some 135) (Op.move (Operand.tmp 9)) 25 (v := ?_) ⟨_, rfl, rfl, rfl, rfl, rfl⟩ (by kernel_rfl) (by kernel_rfl) (by kernel_rfl) (by kernel_rfl) (fun _ _ _ h => h) (fun _ => hS) (fun w' => ?_) ?_
                      rotate_left
                      · unfold bareOp
                        go_simp
                        try with_reducible rfl
                      simp only [Act.put, List.setIfInBounds_toArray, List.set_cons_zero, List.set_cons_succ]
                      refine wpAnyB_takeP (i := 3) (some 136) (Op.move (Operand.tmp 15)) 3 (v := ?_) ⟨_, rfl, rfl, rfl, rfl, rfl⟩ (by kernel_rfl) (by kernel_rfl) (by kernel_rfl) (by kernel_rfl) (fun _ _ _ h => h) (fun _ => hS) (fun w' => ?_) ?_
                      rotate_left
                      · unfold bareOp
                        go_simp
                        try with_reducible rfl
                      simp only [Act.put, List.setIfInBounds_toArray, List.set_cons_zero, List.set_cons_succ]
                      refine wpAnyB_takeP (i := 4) (some 137) (Op.indexAddr 25 (Operand.tmp 135) (Operand.tmp 136)) 0 (v := ?_) ⟨_, rfl, rfl, rfl, rfl, rfl⟩ (by kernel_rfl) (by kernel_rfl) (by kernel_rfl) (by kernel_rfl) (fun _ _ _ h => h) (fun _ => hS) (fun w' => ?_) ?_
                      rotate_left
                      · unfold bareOp
                        go_simp
                        try with_reducible rfl
                      simp only [Act.put, List.setIfInBounds_toArray, List.set_cons_zero, List.set_cons_succ]
                      refine wpAnyB_take (i := 5) (some 138) (Op.load 22 (Operand.tmp 137)) 22 (v := ?_) ⟨_, rfl, rfl, rfl, rfl, rfl⟩ (by kernel_rfl) (by kernel_rfl) (by kernel_rfl) [18, 19, 20] (by kernel_rfl) (fun _ _ _ h => h) hS (fun w' hSw => ?_) ?_
                      rotate_left
                      · obtain ⟨⟨b0, b1, b2⟩, b3, b4, b5⟩ := hSw
                        unfold bareOp
                        go_simp
                        try with_reducible rfl
                      simp only [Act.put, List.setIfInBounds_toArray, List.set_cons_zero, List.set_cons_succ]
                      refine wpAnyB_take (i := 6) (some 139) (Op.load 24 (Operand.tmp 3)) 24 (v := ?_) ⟨_, rfl, rfl, rfl, rfl, rfl⟩ (by kernel_rfl) (by kernel_rfl) (by kernel_rfl) [17, 18, 19, 20] (by kernel_rfl) (fun _ _ _ h => h) hS (fun w' hSw => ?_) ?_
                      rotate_left
                      · obtain ⟨⟨b0, b1, b2⟩, b3, b4, b5⟩ := hSw
                        unfold bareOp
                        go_simp
                        try with_reducible rfl
                      simp only [Act.put, List.setIfInBounds_toArray, List.set_cons_zero, List.set_cons_succ]
                      refine wpAnyB_take (i := 7) (some 140) (Op.load 24 (Operand.tmp 3)) 24 (v := ?_) ⟨_, rfl, rfl, rfl, rfl, rfl⟩ (by kernel_rfl) (by kernel_rfl) (by kernel_rfl) [16, 17, 18, 19, 20] (by kernel_rfl) (fun _ _ _ h => h) hS (fun w' hSw => ?_) ?_
                      rotate_left
                      · obtain ⟨⟨b0, b1, b2⟩, b3, b4, b5⟩ := hSw
                        unfold bareOp
                        go_simp
                        try with_reducible rfl
                      simp only [Act.put, List.setIfInBounds_toArray, List.set_cons_zero, List.set_cons_succ]
                      refine wpAnyB_takeP (i := 8) (some 141) (Op.move (Operand.tmp 14)) 25 (v := ?_) ⟨_, rfl, rfl, rfl, rfl, rfl⟩ (by kernel_rfl) (by kernel_rfl) (by kernel_rfl) (by kernel_rfl) (fun _ _ _ h => h) (fun _ => hS) (fun w' => ?_) ?_
                      rotate_left
                      · unfold bareOp
                        go_simp
                        try with_reducible rfl
                      simp only [Act.put, List.setIfInBounds_toArray, List.set_cons_zero, List.set_cons_succ]
                      refine wpAnyB_takeP (i := 9) (some 142) (Op.indexAddr 25 (Operand.tmp 141) (Operand.const (Value.int IntKind.i64 0))) 0 (v := ?_) ⟨_, rfl, rfl, rfl, rfl, rfl⟩ (by kernel_rfl) (by kernel_rfl) (by kernel_rfl) (by kernel_rfl) (fun _ _ _ h => h) (fun _ => hS) (fun w' => ?_) ?_
                      rotate_left
                      · unfold bareOp
                        go_simp
                        try with_reducible rfl
                      simp only [Act.put, List.setIfInBounds_toArray, List.set_cons_zero, List.set_cons_succ]
                      refine wpAnyB_take (i := 10) (some 143) (Op.load 22 (Operand.tmp 142)) 22 (v := ?_) ⟨_, rfl, rfl, rfl, rfl, rfl⟩ (by kernel_rfl) (by kernel_rfl) (by kernel_rfl) [16, 17, 18, 19, 20] (by kernel_rfl) (fun _ _ _ h => h) hS (fun w' hSw => ?_) ?_
                      rotate_left
                      · obtain ⟨⟨b0, b1, b2⟩, b3, b4, b5⟩ := hSw
                        unfold bareOp
                        go_simp
                        try with_reducible rfl
                      simp only [Act.put, List.setIfInBounds_toArray, List.set_cons_zero, List.set_cons_succ]
                      refine wpAnyB_takeP (i := 11) (some 144) (Op.move (Operand.tmp 1)) 51 (v := ?_) ⟨_, rfl, rfl, rfl, rfl, rfl⟩ (by kernel_rfl) (by kernel_rfl) (by kernel_rfl) (by kernel_rfl) (fun _ _ _ h => h) (fun _ => hS) (fun w' => ?_) ?_
                      rotate_left
                      · unfold bareOp
                        go_simp
                        try with_reducible rfl
                      simp only [Act.put, List.setIfInBounds_toArray, List.set_cons_zero, List.set_cons_succ]
                      refine wpAnyB_takeP (i := 12) (some 145) (Op.move (Operand.tmp 15)) 3 (v := ?_) ⟨_, rfl, rfl, rfl, rfl, rfl⟩ (by kernel_rfl) (by kernel_rfl) (by kernel_rfl) (by kernel_rfl) (fun _ _ _ h => h) (fun _ => hS) (fun w' => ?_) ?_
                      rotate_left
                      · unfold bareOp
                        go_simp
                        try with_reducible rfl
                      simp only [Act.put, List.setIfInBounds_toArray, List.set_cons_zero, List.set_cons_succ]
                      refine wpAnyB_takeP (i := 13) (some 146) (Op.indexAddr 51 (Operand.tmp 144) (Operand.tmp 145)) 0 (v := ?_) ⟨_, rfl, rfl, rfl, rfl, rfl⟩ (by kernel_rfl) (by kernel_rfl) (by kernel_rfl) (by kernel_rfl) (fun _ _ _ h => h) (fun _ => hS) (fun w' => ?_) ?_
                      rotate_left
                      · unfold bareOp
                        go_simp
                        try with_reducible rfl
                      simp only [Act.put, List.setIfInBounds_toArray, List.set_cons_zero, List.set_cons_succ]
                      refine wpAnyB_take (i := 14) (some 147) (Op.load 3 (Operand.tmp 146)) 3 (v := ?_) ⟨_, rfl, rfl, rfl, rfl, rfl⟩ (by kernel_rfl) (by kernel_rfl) (by kernel_rfl) [15, 16, 17, 18, 19, 20] (by kernel_rfl) (fun _ _ _ h => h) hS (fun w' hSw => ?_) ?_
                      rotate_left
                      · obtain ⟨⟨b0, b1, b2⟩, b3, b4, b5⟩ := hSw
                        unfold bareOp
                        go_simp
                        try with_reducible rfl
                      simp only [Act.put, List.setIfInBounds_toArray, List.set_cons_zero, List.set_cons_succ]
                      refine wpAnyB_takeP (i := 15) (some 148) (Op.convert 3 22 (Operand.tmp 147)) 22 (v := ?_) ⟨_, rfl, rfl, rfl, rfl, rfl⟩ (by kernel_rfl) (by kernel_rfl) (by kernel_rfl) (by kernel_rfl) (fun _ _ _ h => h) (fun _ => hS) (fun w' => ?_) ?_
                      rotate_left
                      · unfold bareOp
                        go_simp
                        try with_reducible rfl
                      simp only [Act.put, List.setIfInBounds_toArray, List.set_cons_zero, List.set_cons_succ]
                      refine wpAnyB_only (i := 16) (some 149) (Op.call { callee := Callee.value (Operand.func 71), args := #[Operand.tmp 140, Operand.tmp 143, Operand.tmp 148], argTypes := #[24, 22, 22] }) 22 ⟨_, rfl, rfl, rfl, rfl, rfl⟩ (by kernel_rfl) (fun K hK => ?_)
                      unfold bareOp
                      go_wp2_with (go_at_call 71; refine (stimes_ok _ HH.out q10 q1Q x0 xQ HT1.out).mono ?_; rintro e w8 ⟨rfl, hb8⟩)
                      replace F_g := Lib.hid (F_g.out.keep hb8)
                      replace F_c := Lib.hid (F_c.out.keep hb8)
                      replace F_o := Lib.hid (F_o.out.keep hb8)
                      replace HBW := Lib.hid (HBW.out.trans (hb8.mono HBW.out.size))
                      replace hS := And.intro F_g.out.s (And.intro ((F_c.out.at hin).trans (congrArg (fun z => some (Value.int IntKind.u64 z)) HCI.out)) (And.intro ((F_o.out.at hn0).trans (congrArg (fun z => some (Value.int IntKind.u64 z)) HQ1.out)) ((HBW.out.cell (p := ⟨s, o + i, none⟩) hs).trans HCX.out)))
                      clear hb8
                      refine hK.out _ _ (fun _ => hS) ?_
                      clear hK K
                      try simp only [Act.put, List.setIfInBounds_toArray, List.set_cons_zero, List.set_cons_succ]
                      refine wpAnyB_only (i := 17) (some 150) (Op.call { callee := Callee.value (Operand.func 70), args := #[Operand.tmp 139, Operand.const (Value.int IntKind.u64 0), Operand.tmp 149], argTypes := #[24, 22, 22] }) 22 ⟨_, rfl, rfl, rfl, rfl, rfl⟩ (by kernel_rfl) (fun K hK => ?_)
                      unfold bareOp
                      go_wp2_with (go_at_call 70; refine (sless_ok _ HH.out (Int.le_refl _) (by omega) t0 tQ HT2.out).mono ?_; rintro e w8 ⟨rfl, hb8⟩)
                      replace F_g := Lib.hid (F_g.out.keep hb8)
                      replace F_c := Lib.hid (F_c.out.keep hb8)
                      replace F_o := Lib.hid (F_o.out.keep hb8)
                      replace HBW := Lib.hid (HBW.out.trans (hb8.mono HBW.out.size))
                      replace hS := And.intro F_g.out.s (And.intro ((F_c.out.at hin).trans (congrArg (fun z => some (Value.int IntKind.u64 z)) HCI.out)) (And.intro ((F_o.out.at hn0).trans (congrArg (fun z => some (Value.int IntKind.u64 z)) HQ1.out)) ((HBW.out.cell (p := ⟨s, o + i, none⟩) hs).trans HCX.out)))
                      clear hb8
                      refine hK.out _ _ (fun _ => hS) ?_
                      clear hK K
                      try simp only [Act.put, List.setIfInBounds_toArray, List.set_cons_zero, List.set_cons_succ]
                      refine wpAnyB_only (i := 18) (some 151) (Op.call { callee := Callee.value (Operand.func 53), args := #[Operand.tmp 134, Operand.tmp 138, Operand.tmp 150], argTypes := #[24, 22, 22] }) 22 ⟨_, rfl, rfl, rfl, rfl, rfl⟩ (by kernel_rfl) (fun K hK => ?_)
                      unfold bareOp
                      go_wp2_with (go_at_call 53; refine (splus_ok _ HH.out ci0 ciQ t20 t2Q HT3.out).mono ?_; rintro e w8 ⟨rfl, hb8⟩)
                      replace F_g := Lib.hid (F_g.out.keep hb8)
                      replace F_c := Lib.hid (F_c.out.keep hb8)
                      replace F_o := Lib.hid (F_o.out.keep hb8)
                      replace HBW := Lib.hid (HBW.out.trans (hb8.mono HBW.out.size))
                      replace hS := And.intro F_g.out.s (And.intro ((F_c.out.at hin).trans (congrArg (fun z => some (Value.int IntKind.u64 z)) HCI.out)) (And.intro ((F_o.out.at hn0).trans (congrArg (fun z => some (Value.int IntKind.u64 z)) HQ1.out)) ((HBW.out.cell (p := ⟨s, o + i, none⟩) hs).trans HCX.out)))
                      clear hb8
                      refine hK.out _ _ (fun _ => hS) ?_
                      clear hK K
                      try simp only [Act.put, List.setIfInBounds_toArray, List.set_cons_zero, List.set_cons_succ]
                      refine wpAnyB_takeP (i := 19) (some 152) (Op.indexAddr 25 (Operand.tmp 133) (Operand.const (Value.int IntKind.i64 0))) 0 (v := ?_) ⟨_, rfl, rfl, rfl, rfl, rfl⟩ (by kernel_rfl) (by kernel_rfl) (by kernel_rfl) (by kernel_rfl) (fun _ _ _ h => h) (fun _ => hS) (fun w' => ?_) ?_
                      rotate_left
                      · unfold bareOp
                        go_simp
                        try with_reducible rfl
                      simp only [Act.put, List.setIfInBounds_toArray, List.set_cons_zero, List.set_cons_succ]
                      refine wpAnyB_only (i := 20) none (Op.store 22 (Operand.tmp 152) (Operand.tmp 151)) 0 ⟨_, rfl, rfl, rfl, rfl, rfl⟩ (by kernel_rfl) (fun K hK => ?_)
                      unfold bareOp
                      have hcs := hS.2.2.1
                      have hfs := F_o.out.fz 0
                      go_wp2_with fail
                      refine hK.out _ _ (fun h => absurd (h.symm.trans (by kernel_rfl : _ = true)) (by decide)) ?_
                      clear hK K
                      try simp only [Act.put, List.setIfInBounds_toArray, List.set_cons_zero, List.set_cons_succ]
                      refine wpAnyB_done (by kernel_rfl) ?_ _
                      replace F_g := Lib.hid (F_g.out.far (c := wo.heap.size) (o := 0) (by omega) (.int .u64 t3))
                      replace F_o := Lib.hid (F_o.out.set (k := 0) t3)
                      replace F_c := Lib.hid (F_c.out.far (b := wo.heap.size) (o := 0) (Ne.symm hne) (.int .u64 t3))
                      replace HBW := Lib.hid (HBW.out.setCell (p := ⟨wo.heap.size, 0, none⟩) (by show w.heap.size ≤ wo.heap.size; omega) (.int .u64 t3))
                      clear hS
                      go_wp2_with fail
                      go_roundw
                      case rel => exact ⟨i, by omega, rfl, _, HST.out, F_o.out, F_c.out, F_g.out, HBW.out⟩
                      case measure => simp [intOf] <;> omega
                    case neg =>
                      have hmz' : (0 : Int) < (m : Int) := by omega
                      have hmz2 : 0 < m := by omega
                      obtain ⟨e, he⟩ : ∃ e, m - 1 = e := ⟨_, rfl⟩
                      have hen : e < n := by omega
                      have he0 : (0 : Int) ≤ (e : Int) := by omega
                      have he1 : (e : Int) < (n : Int) := by omega
                      have hwe : IntKind.i64.wrap ((m : Int) - 1) = (e : Int) := by rw [IntWalk.i64_in _ (by omega)]; omega
                      obtain ⟨p1, hp1⟩ : ∃ z, o2.getD e 0 = z := ⟨_, rfl⟩
                      obtain ⟨p10, p1Q⟩ := show 0 ≤ p1 ∧ p1 < Q by rw [← hp1]; exact HRG.out e
                      obtain ⟨t2, ht2⟩ : ∃ z, (p1 - t1) % Q = z := ⟨_, rfl⟩
                      have HP1 := Lib.hid hp1
                      have HQ1 := Lib.hid hq1
                      have HT1 := Lib.hid ht1
                      have HT2 := Lib.hid ht2
                      have HE := Lib.hid he
                      have HST := Lib.hid (show InB Q x n os e (o2.set m t2) by
                        have := HI.out.step (by omega) hmn
                        rwa [he, hp1, hq1, ht1, ht2] at this)
                      clear hp1 hq1 ht1 ht2 he
                      go_wp2_with fail
                      replace F_g := Lib.hid F_g.out.drew
                      replace F_c := Lib.hid F_c.out.drew
                      replace F_o := Lib.hid F_o.out.drew
                      replace HBW := Lib.hid HBW.out.drew
                      have hS := And.intro F_g.out.s (And.intro ((F_o.out.at hen).trans (congrArg (fun z => some (Value.int IntKind.u64 z)) HP1.out)) (And.intro ((F_o.out.at hmn).trans (congrArg (fun z => some (Value.int IntKind.u64 z)) HQ1.out)) ((HBW.out.cell (p := ⟨s, o + i, none⟩) hs).trans HCX.out)))
                      refine wp_region_stage 21 (fun w' => SBox w' w.heap.size P Q G ∧ w'.cell? ⟨wo.heap.size, e, none⟩ = some (.int .u64 p1) ∧ w'.cell? ⟨wo.heap.size, m, none⟩ = some (.int .u64 q1) ∧ w'.cell? ⟨s, o + i, none⟩ = some (.int .i64 x)) (by kernel_rfl) ?_
                      refine wpAnyB_takeP (i := 0) (some 112) (Op.move (Operand.tmp 14)) 25 (v := ?_) ⟨_, rfl, rfl, rfl, rfl, rfl⟩ (by kernel_rfl) (by kernel_rfl) (by kernel_rfl) (by kernel_rfl) (fun _ _ _ h => h) (fun _ => hS) (fun w' => ?_) ?_
                      rotate_left
                      · unfold bareOp
                        go_simp
                        try with_reducible rfl
                      simp only [Act.put, List.setIfInBounds_toArray, List.set_cons_zero, List.set_cons_succ]
                      refine wpAnyB_takeP (i := 1) (some 113) (Op.move (Operand.tmp 16)) 3 (v := ?_) ⟨_, rfl, rfl, rfl, rfl, rfl⟩ (by kernel_rfl) (by kernel_rfl) (by kernel_rfl) (by kernel_rfl) (fun _ _ _ h => h) (fun _ => hS) (fun w' => ?_) ?_
                      rotate_left
                      · unfold bareOp
                        go_simp
                        try with_reducible rfl
                      simp only [Act.put, List.setIfInBounds_toArray, List.set_cons_zero, List.set_cons_succ]
                      refine wpAnyB_take (i := 2) (some 114) (Op.load 24 (Operand.tmp 3)) 24 (v := ?_) ⟨_, rfl, rfl, rfl, rfl, rfl⟩ (by kernel_rfl) (by kernel_rfl) (by kernel_rfl) [19, 20, 21] (by kernel_rfl) (fun _ _ _ h => h) hS (fun w' hSw => ?_) ?_
                      rotate_left
                      · obtain ⟨⟨b0, b1, b2⟩, b3, b4, b5⟩ := hSw
                        unfold bareOp
                        go_simp
                        try with_reducible rfl
                      simp only [Act.put, List.setIfInBounds_toArray, List.set_cons_zero, List.set_cons_succ]
                      refine wpAnyB_takeP (i := 3) (some 115) (Op.move (Operand.tmp 14)) 25 (v := ?_) ⟨_, rfl, rfl, rfl, rfl, rfl⟩ (by kernel_rfl) (by kernel_rfl) (by kernel_rfl) (by kernel_rfl) (fun _ _ _ h => h) (fun _ => hS) (fun w' => ?_) ?_
                      rotate_left
                      · unfold bareOp
                        go_simp
                        try with_reducible rfl
                      simp only [Act.put, List.setIfInBounds_toArray, List.set_cons_zero, List.set_cons_succ]
                      refine wpAnyB_takeP (i := 4) (some 116) (Op.move (Operand.tmp 16)) 3 (v := ?_) ⟨_, rfl, rfl, rfl, rfl, rfl⟩ (by kernel_rfl) (by kernel_rfl) (by kernel_rfl) (by kernel_rfl) (fun _ _ _ h => h) (fun _ => hS) (fun w' => ?_) ?_
                      rotate_left
                      · unfold bareOp
                        go_simp
                        try with_reducible rfl
                      simp only [Act.put, List.setIfInBounds_toArray, List.set_cons_zero, List.set_cons_succ]
                      refine wpAnyB_takeP (i := 5) (some 117) (Op.binOp BinOp.sub 3 (Operand.tmp 116) (Operand.const (Value.int IntKind.i64 1)) 3) 3 (v := ?_) ⟨_, rfl, rfl, rfl, rfl, rfl⟩ (by kernel_rfl) (by kernel_rfl) (by kernel_rfl) (by kernel_rfl) (fun _ _ _ h => h) (fun _ => hS) (fun w' => ?_) ?_
                      rotate_left
                      · unfold bareOp
                        go_simp
                        try with_reducible rfl
                      simp only [Act.put, List.setIfInBounds_toArray, List.set_cons_zero, List.set_cons_succ]
                      refine wpAnyB_takeP (i := 6) (some 118) (Op.indexAddr 25 (Operand.tmp 115) (Operand.tmp 117)) 0 (v := ?_) ⟨_, rfl, rfl, rfl, rfl, rfl⟩ (by kernel_rfl) (by kernel_rfl) (by kernel_rfl) (by kernel_rfl) (fun _ _ _ h => h) (fun _ => hS) (fun w' => ?_) ?_
                      rotate_left
                      · unfold bareOp
                        go_simp
                        try with_reducible rfl
                      simp only [Act.put, List.setIfInBounds_toArray, List.set_cons_zero, List.set_cons_succ]
                      refine wpAnyB_take (i := 7) (some 119) (Op.load 22 (Operand.tmp 118)) 22 (v := ?_) ⟨_, rfl, rfl, rfl, rfl, rfl⟩ (by kernel_rfl) (by kernel_rfl) (by kernel_rfl) [19, 20, 21] (by kernel_rfl) (fun _ _ _ h => h) hS (fun w' hSw => ?_) ?_
                      rotate_left
                      · obtain ⟨⟨b0, b1, b2⟩, b3, b4, b5⟩ := hSw
                        unfold bareOp
                        go_simp
                        try with_reducible rfl
                      simp only [Act.put, List.setIfInBounds_toArray, List.set_cons_zero, List.set_cons_succ]
                      refine wpAnyB_take (i := 8) (some 120) (Op.load 24 (Operand.tmp 3)) 24 (v := ?_) ⟨_, rfl, rfl, rfl, rfl, rfl⟩ (by kernel_rfl) (by kernel_rfl) (by kernel_rfl) [18, 19, 20, 21] (by kernel_rfl) (fun _ _ _ h => h) hS (fun w' hSw => ?_) ?_
                      rotate_left
                      · obtain ⟨⟨b0, b1, b2⟩, b3, b4, b5⟩ := hSw
                        unfold bareOp
                        go_simp
                        try with_reducible rfl
                      simp only [Act.put, List.setIfInBounds_toArray, List.set_cons_zero, List.set_cons_succ]
                      refine wpAnyB_takeP (i := 9) (some 121) (Op.move (Operand.tmp 14)) 25 (v := ?_) ⟨_, rfl, rfl, rfl, rfl, rfl⟩ (by kernel_rfl) (by kernel_rfl) (by kernel_rfl) (by kernel_rfl) (fun _ _ _ h => h) (fun _ => hS) (fun w' => ?_) ?_
                      rotate_left
                      · unfold bareOp
                        go_simp
                        try with_reducible rfl
                      simp only [Act.put, List.setIfInBounds_toArray, List.set_cons_zero, List.set_cons_succ]
                      refine wpAnyB_takeP (i := 10) (some 122) (Op.move (Operand.tmp 16)) 3 (v := ?_) ⟨_, rfl, rfl, rfl, rfl, rfl⟩ (by kernel_rfl) (by kernel_rfl) (by kernel_rfl) (by kernel_rfl) (fun _ _ _ h => h) (fun _ => hS) (fun w' => ?_) ?_
                      rotate_left
                      · unfold bareOp
                        go_simp
                        try with_reducible rfl
                      simp only [Act.put, List.setIfInBounds_toArray, List.set_cons_zero, List.set_cons_succ]
                      refine wpAnyB_takeP (i := 11) (some 123) (Op.indexAddr 25 (Operand.tmp 121) (Operand.tmp 122)) 0 (v := ?_) ⟨_, rfl, rfl, rfl, rfl, rfl⟩ (by kernel_rfl) (by kernel_rfl) (by kernel_rfl) (by kernel_rfl) (fun _ _ _ h => h) (fun _ => hS) (fun w' => ?_) ?_
                      rotate_left
                      · unfold bareOp
                        go_simp
                        try with_reducible rfl
                      simp only [Act.put, List.setIfInBounds_toArray, List.set_cons_zero, List.set_cons_succ]
                      refine wpAnyB_take (i := 12) (some 124) (Op.load 22 (Operand.tmp 123)) 22 (v := ?_) ⟨_, rfl, rfl, rfl, rfl, rfl⟩ (by kernel_rfl) (by kernel_rfl) (by kernel_rfl) [18, 19, 20, 21] (by kernel_rfl) (fun _ _ _ h => h) hS (fun w' hSw => ?_) ?_
                      rotate_left
                      · obtain ⟨⟨b0, b1, b2⟩, b3, b4, b5⟩ := hSw
                        unfold bareOp
                        go_simp
                        try with_reducible rfl
                      simp only [Act.put, List.setIfInBounds_toArray, List.set_cons_zero, List.set_cons_succ]
                      refine wpAnyB_takeP (i := 13) (some 125) (Op.move (Operand.tmp 1)) 51 (v := ?_) ⟨_, rfl, rfl, rfl, rfl, rfl⟩ (by kernel_rfl) (by kernel_rfl) (by kernel_rfl) (by kernel_rfl) (fun _ _ _ h => h) (fun _ => hS) (fun w' => ?_) ?_
                      rotate_left
                      · unfold bareOp
                        go_simp
                        try with_reducible rfl
                      simp only [Act.put, List.setIfInBounds_toArray, List.set_cons_zero, List.set_cons_succ]
                      refine wpAnyB_takeP (i := 14) (some 126) (Op.move (Operand.tmp 15)) 3 (v := ?_) ⟨_, rfl, rfl, rfl, rfl, rfl⟩ (by kernel_rfl) (by kernel_rfl) (by kernel_rfl) (by kernel_rfl) (fun _ _ _ h => h) (fun _ => hS) (fun w' => ?_) ?_
                      rotate_left
                      · unfold bareOp
                        go_simp
                        try with_reducible rfl
                      simp only [Act.put, List.setIfInBounds_toArray, List.set_cons_zero, List.set_cons_succ]
                      refine wpAnyB_takeP (i := 15) (some 127) (Op.indexAddr 51 (Operand.tmp 125) (Operand.tmp 126)) 0 (v := ?_) ⟨_, rfl, rfl, rfl, rfl, rfl⟩ (by kernel_rfl) (by kernel_rfl) (by kernel_rfl) (by kernel_rfl) (fun _ _ _ h => h) (fun _ => hS) (fun w' => ?_) ?_
                      rotate_left
                      · unfold bareOp
                        go_simp
                        try with_reducible rfl
                      simp only [Act.put, List.setIfInBounds_toArray, List.set_cons_zero, List.set_cons_succ]
                      refine wpAnyB_take (i := 16) (some 128) (Op.load 3 (Operand.tmp 127)) 3 (v := ?_) ⟨_, rfl, rfl, rfl, rfl, rfl⟩ (by kernel_rfl) (by kernel_rfl) (by kernel_rfl) [17, 18, 19, 20, 21] (by kernel_rfl) (fun _ _ _ h => h) hS (fun w' hSw => ?_) ?_
                      rotate_left
                      · obtain ⟨⟨b0, b1, b2⟩, b3, b4, b5⟩ := hSw
                        unfold bareOp
                        go_simp
                        try with_reducible rfl
                      simp only [Act.put, List.setIfInBounds_toArray, List.set_cons_zero, List.set_cons_succ]
                      refine wpAnyB_takeP (i := 17) (some 129) (Op.convert 3 22 (Operand.tmp 128)) 22 (v := ?_) ⟨_, rfl, rfl, rfl, rfl, rfl⟩ (by kernel_rfl) (by kernel_rfl) (by kernel_rfl) (by kernel_rfl) (fun _ _ _ h => h) (fun _ => hS) (fun w' => ?_) ?_
                      rotate_left
                      · unfold bareOp
                        go_simp
                        try with_reducible rfl
                      simp only [Act.put, List.setIfInBounds_toArray, List.set_cons_zero, List.set_cons_succ]
                      refine wpAnyB_only (i := 18) (some 130) (Op.call { callee := Callee.value (Operand.func 71), args := #[Operand.tmp 120, Operand.tmp 124, Operand.tmp 129], argTypes := #[24, 22, 22] }) 22 ⟨_, rfl, rfl, rfl, rfl, rfl⟩ (by kernel_rfl) (fun K hK => ?_)
                      unfold bareOp
                      go_wp2_with (go_at_call 71; refine (stimes_ok _ HH.out q10 q1Q x0 xQ HT1.out).mono ?_; rintro e w8 ⟨rfl, hb8⟩)
                      replace F_g := Lib.hid (F_g.out.keep hb8)
                      replace F_c := Lib.hid (F_c.out.keep hb8)
                      replace F_o := Lib.hid (F_o.out.keep hb8)
                      replace HBW := Lib.hid (HBW.out.trans (hb8.mono HBW.out.size))
                      replace hS := And.intro F_g.out.s (And.intro ((F_o.out.at hen).trans (congrArg (fun z => some (Value.int IntKind.u64 z)) HP1.out)) (And.intro ((F_o.out.at hmn).trans (congrArg (fun z => some (Value.int IntKind.u64 z)) HQ1.out)) ((HBW.out.cell (p := ⟨s, o + i, none⟩) hs).trans HCX.out)))
                      clear hb8
                      refine hK.out _ _ (fun _ => hS) ?_
                      clear hK K
                      try simp only [Act.put, List.setIfInBounds_toArray, List.set_cons_zero, List.set_cons_succ]
                      refine wpAnyB_only (i := 19) (some 131) (Op.call { callee := Callee.value (Operand.func 70), args := #[Operand.tmp 114, Operand.tmp 119, Operand.tmp 130], argTypes := #[24, 22, 22] }) 22 ⟨_, rfl, rfl, rfl, rfl, rfl⟩ (by kernel_rfl) (fun K hK => ?_)
                      unfold bareOp
                      go_wp2_with (go_at_call 70; refine (sless_ok _ HH.out p10 p1Q t0 tQ HT2.out).mono ?_; rintro e w8 ⟨rfl, hb8⟩)
                      replace F_g := Lib.hid (F_g.out.keep hb8)
                      replace F_c := Lib.hid (F_c.out.keep hb8)
                      replace F_o := Lib.hid (F_o.out.keep hb8)
                      replace HBW := Lib.hid (HBW.out.trans (hb8.mono HBW.out.size))
                      replace hS := And.intro F_g.out.s (And.intro ((F_o.out.at hen).trans (congrArg (fun z => some (Value.int IntKind.u64 z)) HP1.out)) (And.intro ((F_o.out.at hmn).trans (congrArg (fun z => some (Value.int IntKind.u64 z)) HQ1.out)) ((HBW.out.cell (p := ⟨s, o + i, none⟩) hs).trans HCX.out)))
                      clear hb8
                      refine hK.out _ _ (fun _ => hS) ?_
                      clear hK K
                      try simp only [Act.put, List.setIfInBounds_toArray, List.set_cons_zero, List.set_cons_succ]
                      refine wpAnyB_takeP (i := 20) (some 132) (Op.indexAddr 25 (Operand.tmp 112) (Operand.tmp 113)) 0 (v := ?_) ⟨_, rfl, rfl, rfl, rfl, rfl⟩ (by kernel_rfl) (by kernel_rfl) (by kernel_rfl) (by kernel_rfl) (fun _ _ _ h => h) (fun _ => hS) (fun w' => ?_) ?_
                      rotate_left
                      · unfold bareOp
                        go_simp
                        try with_reducible rfl
                      simp only [Act.put, List.setIfInBounds_toArray, List.set_cons_zero, List.set_cons_succ]
                      refine wpAnyB_only (i := 21) none (Op.store 22 (Operand.tmp 132) (Operand.tmp 131)) 0 ⟨_, rfl, rfl, rfl, rfl, rfl⟩ (by kernel_rfl) (fun K hK => ?_)
                      unfold bareOp
                      have hcs := hS.2.2.1
                      have hfs := F_o.out.fz m
                      go_wp2_with fail
                      refine hK.out _ _ (fun h => absurd (h.symm.trans (by kernel_rfl : _ = true)) (by decide)) ?_
                      clear hK K
                      try simp only [Act.put, List.setIfInBounds_toArray, List.set_cons_zero, List.set_cons_succ]
                      refine wpAnyB_done (by kernel_rfl) ?_ _
                      replace F_g := Lib.hid (F_g.out.far (c := wo.heap.size) (o := m) (by omega) (.int .u64 t2))
                      replace F_o := Lib.hid (F_o.out.set (k := m) t2)
                      replace F_c := Lib.hid (F_c.out.far (b := wo.heap.size) (o := m) (Ne.symm hne) (.int .u64 t2))
                      replace HBW := Lib.hid (HBW.out.setCell (p := ⟨wo.heap.size, m, none⟩) (by show w.heap.size ≤ wo.heap.size; omega) (.int .u64 t2))
                      clear hS
                      go_wp2_with fail
                      go_roundw
                      case rel => first | exact ⟨e, hen, rfl, _, HST.out, F_o.out, F_c.out, F_g.out, HBW.out⟩ | ((repeat apply Exists.intro); exact ⟨⟨e, hen, rfl, _, HST.out, F_o.out, F_c.out, F_g.out, HBW.out⟩, rfl⟩)
                      case measure => have := HE.out; simp [intOf]; omega

end Go.Proofs.Ytjfaaicbojnpaaa
