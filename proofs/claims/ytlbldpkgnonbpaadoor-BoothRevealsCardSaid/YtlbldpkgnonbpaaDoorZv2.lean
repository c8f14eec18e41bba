/- BoothReveals: the statement: for every input the law returns true, and the arguments read as before. -/
import Derived.Test.YtlbldpkgnonbpaaDoorZvR
import Derived.Test.YtlbldpkgnonbpaaDoorZvB
import Derived.Test.YtlbldpkgnonbpaaDoorZvS
import Derived.Test.YtlbldpkgnonbpaaDoorZv1
namespace Go.Proofs.YtlbldpkgnonbpaaDoor
open Go Go.RowKit Num Sha
set_option linter.unusedSimpArgs false
set_option linter.unusedVariables false
set_option maxHeartbeats 1000000 in
theorem gcheck36 (P Q G c : Int) (w : World) (hP : 0 ≤ P) (hQ : 0 ≤ Q) (hG : 0 ≤ G) (hr : ValidS P Q G c) :
    Calls Tryd.prog 54 #[.agg #[.int .u64 P, .int .u64 Q, .int .u64 G]] w fun e w' => e = .returned (.int .i64 c) ∧ Below w.heap.size w w' := by
  have HR := Lib.hid hr
  clear hr
  by_cases hH : Has P Q G
  case neg =>
    have HC := Lib.hid (HR.out.no fun h => hH h.1)
    have HH := Lib.hid hH
    clear hH
    go_enter Tryd.func54, Tryd.ntmps54
    go_wp2_with fail
    refine (form_no P Q G _ hP hQ hG HH.out).mono ?_
    rintro e w1 ⟨rfl, hb1⟩
    go_wp2
    go_ret
    exact ⟨ret_int HC.out.symm, ((Below.refl _ _).alloc (Nat.le_refl _) _).trans (hb1.mono (by simp))⟩
  case pos =>
    obtain ⟨p5, p3, _, pq, g2, gP⟩ := id hH
    have q3 : Q < 1073741824 := by omega
    have HX := Lib.hid (U64.of_lt hQ (by omega))
    have HH := Lib.hid hH
    clear hH pq
    by_cases h1 : Pr P
    case neg =>
      have HC := Lib.hid (HR.out.no fun h => h1 h.2.1)
      have H1 := Lib.hid h1
      clear h1
      go_enter Tryd.func54, Tryd.ntmps54
      go_wp2_with fail
      refine (form_yes P Q G _ HH.out).mono ?_
      rintro e w1 ⟨rfl, hb1⟩
      obtain ⟨hc, hf⟩ := bcell hb1
      have hz := hb1.size
      go_wp2_with fail
      refine (prime_any P false _ hP p3 (by simp [H1.out])).mono ?_
      rintro e w2 ⟨rfl, rfl⟩
      go_wp2
      go_ret
      exact ⟨ret_int HC.out.symm, ((Below.refl _ _).alloc (Nat.le_refl _) _).trans (hb1.mono (by simp))⟩
    case pos =>
      have H1 := Lib.hid h1
      clear h1
      by_cases h2 : Pr Q
      case neg =>
        have HC := Lib.hid (HR.out.no fun h => h2 h.2.2.1)
        have H2 := Lib.hid h2
        clear h2
        go_enter Tryd.func54, Tryd.ntmps54
        go_wp2_with fail
        refine (form_yes P Q G _ HH.out).mono ?_
        rintro e w1 ⟨rfl, hb1⟩
        obtain ⟨hc, hf⟩ := bcell hb1
        have hz := hb1.size
        go_wp2_with fail
        refine (prime_any P true _ hP p3 (by simp [H1.out])).mono ?_
        rintro e w2 ⟨rfl, rfl⟩
        go_wp2_with fail
        refine (prime_any Q false _ hQ (by omega) (by simp [H2.out])).mono ?_
        rintro e w2 ⟨rfl, rfl⟩
        go_wp2
        go_ret
        exact ⟨ret_int HC.out.symm, ((Below.refl _ _).alloc (Nat.le_refl _) _).trans (hb1.mono (by simp))⟩
      case pos =>
        have H2 := Lib.hid h2
        clear h2
        by_cases h3 : powm G Q P = 1
        case neg =>
          have HC := Lib.hid (HR.out.no fun h => h3 h.2.2.2)
          have hb : (powm G Q P != 1) = true := by simpa using h3
          clear h3
          go_enter Tryd.func54, Tryd.ntmps54
          go_wp2_with fail
          refine (form_yes P Q G _ HH.out).mono ?_
          rintro e w1 ⟨rfl, hb1⟩
          obtain ⟨hc, hf⟩ := bcell hb1
          have hz := hb1.size
          go_wp2_with fail
          refine (prime_any P true _ hP p3 (by simp [H1.out])).mono ?_
          rintro e w2 ⟨rfl, rfl⟩
          go_wp2_with fail
          refine (prime_any Q true _ hQ (by omega) (by simp [H2.out])).mono ?_
          rintro e w2 ⟨rfl, rfl⟩
          go_wp2_with fail
          refine (power_any G Q P _ _ hG HX.out (by omega) p3 rfl).mono ?_
          rintro e w2 ⟨rfl, rfl⟩
          go_wp2
          go_ret
          exact ⟨ret_int HC.out.symm, ((Below.refl _ _).alloc (Nat.le_refl _) _).trans (hb1.mono (by simp))⟩
        case pos =>
          have HC := Lib.hid (HR.out.yes ⟨HH.out, H1.out, H2.out, h3⟩)
          have H3 := Lib.hid h3
          clear h3
          go_enter Tryd.func54, Tryd.ntmps54
          go_wp2_with fail
          refine (form_yes P Q G _ HH.out).mono ?_
          rintro e w1 ⟨rfl, hb1⟩
          obtain ⟨hc, hf⟩ := bcell hb1
          have hz := hb1.size
          go_wp2_with fail
          refine (prime_any P true _ hP p3 (by simp [H1.out])).mono ?_
          rintro e w2 ⟨rfl, rfl⟩
          go_wp2_with fail
          refine (prime_any Q true _ hQ (by omega) (by simp [H2.out])).mono ?_
          rintro e w2 ⟨rfl, rfl⟩
          go_wp2_with fail
          refine (power_any G Q P 1 _ hG HX.out (by omega) p3 H3.out).mono ?_
          rintro e w2 ⟨rfl, rfl⟩
          go_wp2
          go_ret
          exact ⟨ret_int HC.out.symm, ((Below.refl _ _).alloc (Nat.le_refl _) _).trans (hb1.mono (by simp))⟩


set_option maxRecDepth 100000 in
set_option maxHeartbeats 8000000 in
theorem member36_any {P Q G a : Int} (w : World) (hP : 0 ≤ P) (hQ : 0 ≤ Q) (hG : 0 ≤ G) (a0 : 0 ≤ a) :
    Calls Tryd.prog 25 #[.agg #[.int .u64 P, .int .u64 Q, .int .u64 G], .int .u64 a] w fun e w' => (∃ r : Bool, e = .returned (.bool r) ∧ (r = true ↔ Valid P Q G ∧ Mem P Q a)) ∧ Below w.heap.size w w' := by
  obtain ⟨v, hv⟩ := ValidS.exists P Q G
  have HV := Lib.hid hv
  clear hv
  have F_g := Lib.hid (Cl.at w [.int .u64 P, .int .u64 Q, .int .u64 G] 49 w.heap.size rfl)
  have HBW := Lib.hid (show Below w.heap.size w (w.alloc (.cells #[.int .u64 P, .int .u64 Q, .int .u64 G] 49)) from (Below.refl _ _).alloc (Nat.le_refl _) _)
  obtain ⟨r, c, hr, hiff⟩ : ∃ (r : Bool) (c : Int), RetB (checkS P Q G P [a]) (Mem P Q a) r c ∧ ((decide (v = 0) && decide (c = 0) && r) = true ↔ Valid P Q G ∧ Mem P Q a) := by
    have hvv : v = 0 ↔ Valid P Q G := by rcases HV.out with ⟨h, rfl⟩ | ⟨h, rfl⟩ <;> simp [h]
    by_cases hc : checkS P Q G P [a] = 0
    · by_cases hm : Mem P Q a
      · exact ⟨true, 0, .inl ⟨hc, by simp [hm], rfl⟩, by simp [hm, hvv]⟩
      · exact ⟨false, 0, .inl ⟨hc, by simp [hm], rfl⟩, by simp [hm]⟩
    · refine ⟨false, _, .inr ⟨hc, rfl, rfl⟩, ?_⟩
      simp only [Bool.and_false, Bool.false_eq_true, false_iff]
      rintro ⟨h1, h2⟩
      exact hc (by rw [checkS, if_pos h1.has]; simp [okAll, h2.2.1])
  have HM := Lib.hid hr
  have HI := Lib.hid hiff
  clear hr hiff
  go_enter Tryd.func25, Tryd.ntmps25
  have g0 := F_g.out.c 0 _ rfl
  have g1 := F_g.out.c 1 _ rfl
  have g2 := F_g.out.c 2 _ rfl
  go_wp2_with fail
  clear g0 g1 g2
  refine (member_gen hP hQ hG _ a0 HM.out).mono ?_
  rintro e w1 ⟨rfl, hb1⟩
  replace F_g := Lib.hid (F_g.out.keep hb1)
  replace HBW := Lib.hid (HBW.out.trans (hb1.mono HBW.out.size))
  clear hb1
  have g0 := F_g.out.c 0 _ rfl
  have g1 := F_g.out.c 1 _ rfl
  have g2 := F_g.out.c 2 _ rfl
  go_wp2_with fail
  clear g0 g1 g2
  refine (gcheck36 P Q G v _ hP hQ hG HV.out).mono ?_
  rintro e w2 ⟨rfl, hb2⟩
  replace HBW := Lib.hid (HBW.out.trans (hb2.mono HBW.out.size))
  clear hb2
  by_cases hv0 : v = 0
  case neg =>
    go_wp2_with fail
    go_ret
    exact ⟨⟨_, rfl, by have := HI.out; simp [hv0] at this; simpa using this⟩, HBW.out⟩
  case pos =>
  by_cases hc0 : c = 0
  case neg =>
    go_wp2_with fail
    go_ret
    exact ⟨⟨_, rfl, by have := HI.out; simp [hv0, hc0] at this; simpa using this⟩, HBW.out⟩
  case pos =>
  go_wp2_with fail
  go_ret
  exact ⟨⟨r, rfl, by have := HI.out; simpa [hv0, hc0] using this⟩, HBW.out⟩

set_option maxRecDepth 100000 in
set_option maxHeartbeats 8000000 in
theorem rReveal_aux {a1 a2 b1 b2 : Option Addr} {n m c1 c2 d1 d2 : Nat} {ms ns : List Int} (w : World) (hn : n ≤ 1000) (hm : m ≤ 1000) (h1 : ShI .i64 w a1 n ms) (h2 : ShI .i64 w a2 n ms) (h3 : ShI .u64 w b1 m ns) (h4 : ShI .u64 w b2 m ns) :
    Calls Tryd.prog 23 #[.agg #[.slice a1 n c1, .slice b1 m d1], .agg #[.slice a2 n c2, .slice b2 m d2]] w fun e w' => e = .returned (.bool true) ∧ Below w.heap.size w w' := by
  have H1 := Lib.hid h1
  have H2 := Lib.hid h2
  have H3 := Lib.hid h3
  have H4 := Lib.hid h4
  have F_v := Lib.hid (show Cl ((w.alloc (.cells #[.slice a1 n c1, .slice b1 m d1] 57)).alloc (.cells #[.slice a2 n c2, .slice b2 m d2] 57)) w.heap.size [.slice a1 n c1, .slice b1 m d1] from (Cl.at w [.slice a1 n c1, .slice b1 m d1] 57 w.heap.size rfl).alloc _)
  have F_u := Lib.hid (show Cl ((w.alloc (.cells #[.slice a1 n c1, .slice b1 m d1] 57)).alloc (.cells #[.slice a2 n c2, .slice b2 m d2] 57)) (w.heap.size + 1) [.slice a2 n c2, .slice b2 m d2] from Cl.at (w.alloc (.cells #[.slice a1 n c1, .slice b1 m d1] 57)) [.slice a2 n c2, .slice b2 m d2] 57 (w.heap.size + 1) (by simp))
  have HBW := Lib.hid (show Below w.heap.size w ((w.alloc (.cells #[.slice a1 n c1, .slice b1 m d1] 57)).alloc (.cells #[.slice a2 n c2, .slice b2 m d2] 57)) from ((Below.refl _ _).alloc (Nat.le_refl _) _).alloc (by simp) _)
  clear h1 h2 h3 h4
  go_enter Tryd.func23, Tryd.ntmps23
  have q0 := F_v.out.c 0 _ rfl
  have q1 := F_v.out.c 1 _ rfl
  have y0 := F_u.out.c 0 _ rfl
  have y1 := F_u.out.c 1 _ rfl
  go_wp2_with fail
  clear q0 q1 y0 y1
  go_loopw [5] (fun cv wr => ∃ (i : Nat), i ≤ n ∧ cv = .int .i64 i ∧ Hid (Cl wr w.heap.size [.slice a1 n c1, .slice b1 m d1]) ∧ Hid (Cl wr (w.heap.size + 1) [.slice a2 n c2, .slice b2 m d2]) ∧ Hid (Below w.heap.size w wr)) (fun cv _ => n - (intOf cv).toNat)
  case atStart => exact ⟨0, by omega, rfl, F_v.out, F_u.out, HBW.out⟩
  case round =>
    clear F_v F_u HBW
    obtain ⟨i, hi, rfl, F_v, F_u, HBW⟩ := hrel
    have hwi : IntKind.i64.wrap ((i : Int) + 1) = (i : Int) + 1 := IntWalk.i64_in _ (by omega)
    have hi0 : (0 : Int) ≤ (i : Int) := by omega
    have q0 := F_v.out.c 0 _ rfl
    have q1 := F_v.out.c 1 _ rfl
    have y0 := F_u.out.c 0 _ rfl
    have y1 := F_u.out.c 1 _ rfl
    by_cases hlt : i < n
    case pos =>
      have hi2 : (i : Int) < (n : Int) := by omega
      obtain ⟨s, o, hsa, hsl, e0, -⟩ := (H1.out.keep HBW.out).at i hlt
      obtain ⟨s', o', hsa', hsl', e0', -⟩ := (H2.out.keep HBW.out).at i hlt
      generalize ms.getD i 0 = x at e0 e0'
      rw [hsa] at q0
      rw [hsa'] at y0
      clear hsa hsa' hsl hsl'
      go_wp2_with fail
      go_region
      go_wp2_with fail
      go_roundw
      case rel => exact ⟨i + 1, by omega, by go_num, F_v.out.drew, F_u.out.drew, HBW.out.drew⟩
      case measure => simp [intOf] <;> omega
    case neg =>
      have hi2 : ¬ ((i : Int) < (n : Int)) := by omega
      go_wp2_with fail
      clear q0 q1 y0 y1
      clear hwi hi0 hi2
      obtain ⟨wb, rfl⟩ : ∃ wb, wb = wr := ⟨_, rfl⟩
      go_loopw [6] (fun cv wr => ∃ (i : Nat), i ≤ m ∧ cv = .int .i64 i ∧ Hid (Cl wr w.heap.size [.slice a1 n c1, .slice b1 m d1]) ∧ Hid (Cl wr (w.heap.size + 1) [.slice a2 n c2, .slice b2 m d2]) ∧ Hid (Below w.heap.size w wr)) (fun cv _ => m - (intOf cv).toNat)
      case atStart => exact ⟨0, by omega, rfl, F_v.out, F_u.out, HBW.out⟩
      case round =>
        clear F_v F_u HBW
        obtain ⟨i, hi, rfl, F_v, F_u, HBW⟩ := hrel
        have hwi : IntKind.i64.wrap ((i : Int) + 1) = (i : Int) + 1 := IntWalk.i64_in _ (by omega)
        have hi0 : (0 : Int) ≤ (i : Int) := by omega
        have q0 := F_v.out.c 0 _ rfl
        have q1 := F_v.out.c 1 _ rfl
        have y0 := F_u.out.c 0 _ rfl
        have y1 := F_u.out.c 1 _ rfl
        by_cases hlt : i < m
        case pos =>
          have hi2 : (i : Int) < (m : Int) := by omega
          obtain ⟨s, o, hsa, hsl, e0, -⟩ := (H3.out.keep HBW.out).at i hlt
          obtain ⟨s', o', hsa', hsl', e0', -⟩ := (H4.out.keep HBW.out).at i hlt
          generalize ns.getD i 0 = x at e0 e0'
          rw [hsa] at q1
          rw [hsa'] at y1
          clear hsa hsa' hsl hsl'
          go_wp2_with fail
          go_region
          go_wp2_with fail
          go_roundw
          case rel => exact ⟨i + 1, by omega, by go_num, F_v.out.drew, F_u.out.drew, HBW.out.drew⟩
          case measure => simp [intOf] <;> omega
        case neg =>
          have hi2 : ¬ ((i : Int) < (m : Int)) := by omega
          go_wp2_with fail
          clear q0 q1 y0 y1
          clear hwi hi0 hi2
          go_ret
          exact ⟨rfl, HBW.out⟩
theorem rReveal_any {R S : Rv} (w : World) (hR : RvIn w R) (hS : RvIn w S) (h1 : R.ms = S.ms) (h2 : R.ns = S.ns) (hn : R.n ≤ 1000) (hm : R.m ≤ 1000) :
    Calls Tryd.prog 23 #[R.v, S.v] w fun e w' => e = .returned (.bool true) ∧ Below w.heap.size w w' := by
  have e1 := hR.h1.len
  have e2 := hS.h1.len
  have e3 := hR.h2.len
  have e4 := hS.h2.len
  obtain ⟨a1, n, c1, ms, b1, m, d1, ns⟩ := R
  obtain ⟨a2, n', c2, ms', b2, m', d2, ns'⟩ := S
  simp only at *
  subst h1 h2
  obtain rfl : n' = n := by omega
  obtain rfl : m' = m := by omega
  exact rReveal_aux w hn hm hR.h1 hS.h1 hR.h2 hS.h2
end Go.Proofs.YtlbldpkgnonbpaaDoor
namespace Go.Proofs.YtlbldpkgnonbpaaDoor
open Go.ChangeShapes Go.WideShapes Go.ChangeAt Go.RowKit Num
set_option linter.unusedSimpArgs false
set_option linter.unusedVariables false
theorem open_numsF {P : Program} {H : Type} {enc : TypeId × Value → H} {w : World} {base : Nat} {held : Bool} {t e : TypeId} {q : IntKind} {fuel : Nat} {v0 : Value} {y : DataW H × List MemPlace} (ht : P.underlying t = some (.slice e)) (he : P.underlying e = some (.int q)) (hc1 : P.cellsOf e = 1) (hf : DataW.trod enc P w base (fun _ => true) held fuel t [v0] = some y) :
    ∃ a n c xs, v0 = .slice a n c ∧ ShI q w a n xs ∧ (∀ x, x ∈ xs → (Lit.int q x).wf = true) ∧ (a = none → c = 0) ∧ n ≤ c ∧ c ≤ 9223372036854775807 := by
  rcases open_ints ht he hc1 hf with ⟨hcs, -⟩ | ⟨a, len, cap, zs, hcs, -, hl, hm, hz, -, hcell, hw⟩
  · simp at hcs
    exact ⟨none, 0, 0, [], hcs, .inl ⟨rfl, rfl⟩, (fun q hq => by cases hq), (fun _ => rfl), Nat.le_refl _, Nat.zero_le _⟩
  · simp at hcs
    subst hcs
    have hmc : zs.length = cap := by simpa using hz
    by_cases hl0 : len = 0
    · subst hl0
      exact ⟨_, _, _, [], rfl, .inl ⟨rfl, rfl⟩, (fun q hq => by cases hq), (fun h => by cases h), hl, by unfold maxLen at hm; omega⟩
    · obtain ⟨b, off, spot⟩ := a
      have g0 := hcell 0 (by omega)
      have hspot : spot = none := by simpa [Addr.add] using World.cell?_spot g0
      subst hspot
      have hlt : b < w.heap.size := by
        have := World.block_lt_of_cell? w _ g0
        simpa [add_plain'] using this
      refine ⟨_, _, _, zs.take len, rfl, .inr ⟨b, off, rfl, by simp; omega, hlt, fun i hi => ?_⟩, fun z hz => hw z (List.mem_of_mem_take hz), (fun h => by cases h), hl, by unfold maxLen at hm; omega⟩
      have hi' : i < len ∧ i < zs.length := by simp at hi; omega
      have e : (zs.take len).getD i 0 = zs.getD i 0 := by simp [List.getD_eq_getElem?_getD, List.getElem?_take, hi'.1]
      rw [e, ← add_plain']; exact hcell i hi'.2
theorem wf_i64 {x : Int} (h : (Lit.int .i64 x).wf = true) : -9223372036854775808 ≤ x ∧ x ≤ 9223372036854775807 := by
  have h := bounds_i64 h
  exact ⟨h.1, by have := h.2; omega⟩
set_option maxRecDepth 100000 in
theorem reveal_cells {H : Type} {enc : TypeId × Value → H} {w : World} {base : Nat} {held : Bool} {fuel : Nat} {cs : List Value} {x : DataW H × List MemPlace} (h2 : cs.length = 2) (hf : DataW.trod enc Tryd.prog w base (fun _ => true) held fuel 57 cs = some x) : ∃ R : Rv, cs = [.slice R.a R.n R.c, .slice R.b R.m R.d] ∧ RvIn w R := by
  obtain ⟨x0, x1, hl⟩ := list2 _ h2
  rw [hl] at hf
  obtain ⟨xs, k, hk, hxy, _, hxl, hff⟩ := DataW.trod_struct Tryd.underlying57 hf
  match xs, hxl with
  | [y0, y1], _ =>
    have c1 : Tryd.prog.cellsOf 54 = 1 := by kernel_rfl
    have c2 : Tryd.prog.cellsOf 55 = 1 := by kernel_rfl
    have g0 := hff 0 _ rfl
    have g1 := hff 1 _ rfl
    simp [c1, c2] at g0 g1
    obtain ⟨a, n, c, ms, rfl, q1, q2, q3, -⟩ := open_numsF Tryd.underlying54 Tryd.underlying3 (by kernel_rfl) g0
    obtain ⟨b, m, d, ns, rfl, q4, q5, q6, -⟩ := open_numsF Tryd.underlying55 Tryd.underlying24 (by kernel_rfl) g1
    exact ⟨⟨a, n, c, ms, b, m, d, ns⟩, hl, q1, fun x hx => wf_i64 (q2 x hx), q3, q4, fun x hx => U64.wf (q5 x hx), q6⟩
set_option maxRecDepth 100000 in
theorem open_reveal {H : Type} {enc : TypeId × Value → H} {w : World} {base : Nat} {held : Bool} {r : Reach} {b0 : Nat} {v : Value} {d : DataW H} {p : List MemPlace} (hv : Value.okWide Tryd.prog w r b0 57 v) (h : DataW.Trod enc Tryd.prog w base (fun _ => true) held 57 v d p) :
    ∃ R : Rv, v = R.v ∧ RvIn w R := by
  obtain ⟨cs, rfl, hsz⟩ := okWide_struct Tryd.underlying57 hv
  obtain ⟨fuel, hf⟩ := h
  simp only [Value.cells] at hf
  have h2 : cs.toList.length = 2 := by rw [Array.length_toList, hsz]; kernel_rfl
  obtain ⟨R, hl, hR⟩ := reveal_cells h2 hf
  refine ⟨R, ?_, hR⟩
  unfold Rv.v
  congr 1
  exact Array.toList_inj.1 hl
end Go.Proofs.YtlbldpkgnonbpaaDoor
namespace Go.Proofs.YtlbldpkgnonbpaaDoor
open Go Go.RowKit Num Sha
set_option linter.unusedSimpArgs false
set_option linter.unusedVariables false

theorem markedFrom_gt {n : Int} : ∀ (l : List Int) (last : Int), markedFrom n last l = true → ∀ i, i ∈ l → last < i ∧ i < n
  | [], _, _ => fun i hi => by cases hi
  | j :: l, last, h => fun i hi => by
    unfold markedFrom at h
    split at h
    · cases h
    · next hj =>
      rcases List.mem_cons.1 hi with rfl | hi
      · omega
      · have := markedFrom_gt l j h i hi
        omega
theorem markedFrom_ext {n : Int} : ∀ (l l' : List Int) (last : Int), markedFrom n last l = true → markedFrom n last l' = true → (∀ i, last < i → i < n → (i ∈ l ↔ i ∈ l')) → l = l'
  | [], [], _, _, _, _ => rfl
  | [], j :: l', last, _, h', hs => by
    have := markedFrom_gt _ _ h' j (.head _)
    exact absurd ((hs j this.1 this.2).2 (.head _)) (by simp)
  | j :: l, [], last, h, _, hs => by
    have := markedFrom_gt _ _ h j (.head _)
    exact absurd ((hs j this.1 this.2).1 (.head _)) (by simp)
  | j :: l, j' :: l', last, h, h', hs => by
    have g := markedFrom_gt _ _ h j (.head _)
    have g' := markedFrom_gt _ _ h' j' (.head _)
    have t : markedFrom n j l = true := by
      unfold markedFrom at h
      split at h
      · cases h
      · exact h
    have t' : markedFrom n j' l' = true := by
      unfold markedFrom at h'
      split at h'
      · cases h'
      · exact h'
    have m1 := (hs j g.1 g.2).1 (.head _)
    have m2 := (hs j' g'.1 g'.2).2 (.head _)
    have e : j = j' := by
      rcases List.mem_cons.1 m1 with e | m1
      · exact e
      · rcases List.mem_cons.1 m2 with e | m2
        · exact e.symm
        · have := markedFrom_gt _ _ t' j m1
          have := markedFrom_gt _ _ t j' m2
          omega
    subst e
    rw [markedFrom_ext l l' j t t' fun i h1 h2 => ?_]
    have := hs i (by omega) h2
    rw [List.mem_cons, List.mem_cons] at this
    have hne : i ≠ j := by omega
    simpa [hne] using this
theorem msg_iff {l l' : List Int} {i : Int} (h : msgS l i = msgS l' i) : i ∈ l ↔ i ∈ l' := by
  unfold msgS at h
  by_cases h1 : i ∈ l <;> by_cases h2 : i ∈ l' <;> simp_all
theorem encP_inj {P Q G y m m' x x' : Int} (g : Grp P Q G) (hy : Mem P Q y) (m0 : 0 ≤ m) (m1 : m < Q) (m0' : 0 ≤ m') (m1' : m' < Q) (x0 : 0 ≤ x) (x1 : x < Q) (x0' : 0 ≤ x') (x1' : x' < Q) (h : encP P G y m x = encP P G y m' x') : m = m' ∧ x = x' := by
  have hG1 : G ≠ 1 := by have := g.g2; omega
  unfold encP at h
  obtain ⟨h1, h2⟩ := Prod.mk.inj h
  obtain rfl := g.inj g.mem_g hG1 x0 x1 x0' x1' h1
  refine ⟨?_, rfl⟩
  have hnd := g.nd (g.mem_pow hy x)
  rw [Int.mul_comm (powm G m P), Int.mul_comm (powm G m' P)] at h2
  have hP : (0 : Int) < P := by have := g.five; omega
  have h3 := g.pP.cancel hnd (cg_of_emod h2)
  exact g.inj g.mem_g hG1 m0 m1 m0' m1' (h3.eq (powm_nonneg hP) (powm_lt hP) (powm_nonneg hP) (powm_lt hP))
theorem list_ext_getD {l l' : List Int} {n : Nat} (h : l.length = n) (h' : l'.length = n) (he : ∀ i, i < n → l.getD i 0 = l'.getD i 0) : l = l' := by
  refine List.ext_getElem (by omega) fun i h1 h2 => ?_
  have := he i (by omega)
  simpa [List.getD, h1, h2] using this
theorem reveals_eq {P Q G y : Int} {n : Nat} {V : Vt} {R S : Rv} {w : World} (g : Grp P Q G) (hy : Mem P Q y) (hR : RvIn w R) (hS : RvIn w S) (r1 : rangeP Q n R) (s1 : rangeP Q n S) (r2 : matchP P G y n V R) (s2 : matchP P G y n V S) : R.ms = S.ms ∧ R.ns = S.ns := by
  have lR := hR.h2.len
  have lS := hS.h2.len
  have hQ : 2 ≤ Q := g.pQ.1
  have key : ∀ i, i < n → msgS R.ms (i : Int) = msgS S.ms (i : Int) ∧ R.ns.getD i 0 = S.ns.getD i 0 := by
    intro i hi
    have nb : ∀ {T : Rv}, RvIn w T → rangeP Q n T → 0 ≤ T.ns.getD i 0 ∧ T.ns.getD i 0 < Q := by
      intro T hT hr
      have hl := hT.h2.len
      have hm : T.ns.getD i 0 ∈ T.ns := by
        have hlt : i < T.ns.length := by rw [← hl, hr.1]; exact hi
        simp [List.getD, hlt]
      refine ⟨(hT.u2 _ hm).1, ?_⟩
      rcases Int.lt_or_le (T.ns.getD i 0) Q with h | h
      · exact h
      · exact absurd ⟨_, hm, h⟩ hr.2.1
    have mb : ∀ l : List Int, 0 ≤ msgS l (i : Int) ∧ msgS l (i : Int) < Q := by
      intro l
      rcases msgS_01 l i with h | h <;> rw [h] <;> omega
    exact encP_inj g hy (mb _).1 (mb _).2 (mb _).1 (mb _).2 (nb hR r1).1 (nb hR r1).2 (nb hS s1).1 (nb hS s1).2 ((r2.2 i hi).symm.trans (s2.2 i hi))
  refine ⟨?_, list_ext_getD (lR.symm.trans r1.1) (lS.symm.trans s1.1) fun i hi => (key i hi).2⟩
  refine markedFrom_ext _ _ (-1) r1.2.2 s1.2.2 fun i h0 h1 => ?_
  obtain ⟨j, rfl⟩ : ∃ j : Nat, i = (j : Int) := ⟨i.toNat, by omega⟩
  exact msg_iff (key j (by omega)).1
end Go.Proofs.YtlbldpkgnonbpaaDoor
namespace Go.Proofs.YtlbldpkgnonbpaaDoor.lawRev
open Go Sha Go.ChangeShapes Go.WideShapes Go.ChangeAt Go.RowKit Num
set_option linter.unusedSimpArgs false
set_option linter.unusedVariables false

theorem matches_gen {P Q G y n : Int} {V : Vt} {R : Rv} (w : World) (hT : Tabs w) (hP : 0 ≤ P) (hQ : 0 ≤ Q) (hG : 0 ≤ G) (hy : 0 ≤ y) (hV : VtIn w V) (hR : RvIn w R) (hrn : R.n ≤ 1000) :
    Calls Tryd.prog 26 #[.agg #[.int .u64 P, .int .u64 Q, .int .u64 G], .int .u64 y, .int .i64 n, V.v, R.v] w fun e w' => (∃ (b : Bool) (c : Int), e = .returned (.tuple #[.bool b, .int .i64 c]) ∧ (c = 0 → b = true → rangeP Q n.toNat R ∧ matchP P G y n.toNat V R)) ∧ Below w.heap.size w w' := by
  refine (matches_any w hT hP hQ hG hy hV hR hrn).mono ?_
  rintro e w' ⟨hb, ⟨hc, rfl⟩ | ⟨-, ⟨hr, rfl⟩ | ⟨hr, v, rfl, hv⟩⟩⟩
  · exact ⟨⟨_, _, rfl, fun h => absurd h hc⟩, hb⟩
  · exact ⟨⟨_, _, rfl, fun h => by cases h⟩, hb⟩
  · exact ⟨⟨_, _, rfl, fun _ h => ⟨hr, hv.1 h⟩⟩, hb⟩
set_option maxRecDepth 100000 in
set_option maxHeartbeats 6400000 in
theorem walk (P Q G y n : Int) (V : Vt) (R S : Rv) (w : World) (uP : U64 P) (uQ : U64 Q) (uG : U64 G) (uy : U64 y) (hn : -9223372036854775808 ≤ n ∧ n ≤ 9223372036854775807) (hV : VtIn w V) (hR : RvIn w R) (hS : RvIn w S) (hT : Tabs w) :
    Calls Tryd.prog 6 #[.agg #[.int .u64 P, .int .u64 Q, .int .u64 G], .int .u64 y, .int .i64 n, V.v, R.v, S.v] w fun e w' => e = .returned (.bool true) ∧ Below w.heap.size w w' := by
  have HV := Lib.hid hV
  have HR := Lib.hid hR
  have HS := Lib.hid hS
  have HT := Lib.hid hT
  clear hV hR hS hT hn
  have hP := uP.1
  have hQ := uQ.1
  have hG := uG.1
  have hy := uy.1
  clear uP uQ uG uy
  unfold Vt.v Rv.v
  have F_g := Lib.hid (show Cl ((((w.alloc (.cells #[.int .u64 P, .int .u64 Q, .int .u64 G] 49)).alloc (.cells #[.slice V.a V.n V.c, .slice V.b V.m V.d, .bool V.one, .int .u64 V.z.r0, .int .u64 V.z.r1, .int .u64 V.z.s0, .int .u64 V.z.s1, .int .u64 V.z.c0, .int .u64 V.z.c1, .int .u64 V.z.z0, .int .u64 V.z.z1] 29)).alloc (.cells #[.slice R.a R.n R.c, .slice R.b R.m R.d] 57)).alloc (.cells #[.slice S.a S.n S.c, .slice S.b S.m S.d] 57)) (w.heap.size) [.int .u64 P, .int .u64 Q, .int .u64 G] from (((Cl.at w [.int .u64 P, .int .u64 Q, .int .u64 G] 49 (w.heap.size) (by simp)).alloc _).alloc _).alloc _)
  have F_v := Lib.hid (show Cl ((((w.alloc (.cells #[.int .u64 P, .int .u64 Q, .int .u64 G] 49)).alloc (.cells #[.slice V.a V.n V.c, .slice V.b V.m V.d, .bool V.one, .int .u64 V.z.r0, .int .u64 V.z.r1, .int .u64 V.z.s0, .int .u64 V.z.s1, .int .u64 V.z.c0, .int .u64 V.z.c1, .int .u64 V.z.z0, .int .u64 V.z.z1] 29)).alloc (.cells #[.slice R.a R.n R.c, .slice R.b R.m R.d] 57)).alloc (.cells #[.slice S.a S.n S.c, .slice S.b S.m S.d] 57)) (w.heap.size + 1) [.slice V.a V.n V.c, .slice V.b V.m V.d, .bool V.one, .int .u64 V.z.r0, .int .u64 V.z.r1, .int .u64 V.z.s0, .int .u64 V.z.s1, .int .u64 V.z.c0, .int .u64 V.z.c1, .int .u64 V.z.z0, .int .u64 V.z.z1] from ((Cl.at (w.alloc (.cells #[.int .u64 P, .int .u64 Q, .int .u64 G] 49)) [.slice V.a V.n V.c, .slice V.b V.m V.d, .bool V.one, .int .u64 V.z.r0, .int .u64 V.z.r1, .int .u64 V.z.s0, .int .u64 V.z.s1, .int .u64 V.z.c0, .int .u64 V.z.c1, .int .u64 V.z.z0, .int .u64 V.z.z1] 29 (w.heap.size + 1) (by simp)).alloc _).alloc _)
  have F_a := Lib.hid (show Cl ((((w.alloc (.cells #[.int .u64 P, .int .u64 Q, .int .u64 G] 49)).alloc (.cells #[.slice V.a V.n V.c, .slice V.b V.m V.d, .bool V.one, .int .u64 V.z.r0, .int .u64 V.z.r1, .int .u64 V.z.s0, .int .u64 V.z.s1, .int .u64 V.z.c0, .int .u64 V.z.c1, .int .u64 V.z.z0, .int .u64 V.z.z1] 29)).alloc (.cells #[.slice R.a R.n R.c, .slice R.b R.m R.d] 57)).alloc (.cells #[.slice S.a S.n S.c, .slice S.b S.m S.d] 57)) (w.heap.size + 1 + 1) [.slice R.a R.n R.c, .slice R.b R.m R.d] from (Cl.at ((w.alloc (.cells #[.int .u64 P, .int .u64 Q, .int .u64 G] 49)).alloc (.cells #[.slice V.a V.n V.c, .slice V.b V.m V.d, .bool V.one, .int .u64 V.z.r0, .int .u64 V.z.r1, .int .u64 V.z.s0, .int .u64 V.z.s1, .int .u64 V.z.c0, .int .u64 V.z.c1, .int .u64 V.z.z0, .int .u64 V.z.z1] 29)) [.slice R.a R.n R.c, .slice R.b R.m R.d] 57 (w.heap.size + 1 + 1) (by simp)).alloc _)
  have F_b := Lib.hid (show Cl ((((w.alloc (.cells #[.int .u64 P, .int .u64 Q, .int .u64 G] 49)).alloc (.cells #[.slice V.a V.n V.c, .slice V.b V.m V.d, .bool V.one, .int .u64 V.z.r0, .int .u64 V.z.r1, .int .u64 V.z.s0, .int .u64 V.z.s1, .int .u64 V.z.c0, .int .u64 V.z.c1, .int .u64 V.z.z0, .int .u64 V.z.z1] 29)).alloc (.cells #[.slice R.a R.n R.c, .slice R.b R.m R.d] 57)).alloc (.cells #[.slice S.a S.n S.c, .slice S.b S.m S.d] 57)) (w.heap.size + 1 + 1 + 1) [.slice S.a S.n S.c, .slice S.b S.m S.d] from Cl.at (((w.alloc (.cells #[.int .u64 P, .int .u64 Q, .int .u64 G] 49)).alloc (.cells #[.slice V.a V.n V.c, .slice V.b V.m V.d, .bool V.one, .int .u64 V.z.r0, .int .u64 V.z.r1, .int .u64 V.z.s0, .int .u64 V.z.s1, .int .u64 V.z.c0, .int .u64 V.z.c1, .int .u64 V.z.z0, .int .u64 V.z.z1] 29)).alloc (.cells #[.slice R.a R.n R.c, .slice R.b R.m R.d] 57)) [.slice S.a S.n S.c, .slice S.b S.m S.d] 57 (w.heap.size + 1 + 1 + 1) (by simp))
  have HBW := Lib.hid (show Below w.heap.size w ((((w.alloc (.cells #[.int .u64 P, .int .u64 Q, .int .u64 G] 49)).alloc (.cells #[.slice V.a V.n V.c, .slice V.b V.m V.d, .bool V.one, .int .u64 V.z.r0, .int .u64 V.z.r1, .int .u64 V.z.s0, .int .u64 V.z.s1, .int .u64 V.z.c0, .int .u64 V.z.c1, .int .u64 V.z.z0, .int .u64 V.z.z1] 29)).alloc (.cells #[.slice R.a R.n R.c, .slice R.b R.m R.d] 57)).alloc (.cells #[.slice S.a S.n S.c, .slice S.b S.m S.d] 57)) from ((((Below.refl _ _).alloc (by simp <;> omega) _).alloc (by simp <;> omega) _).alloc (by simp <;> omega) _).alloc (by simp <;> omega) _)
  go_enter Tryd.func6, Tryd.ntmps6
  go_wp2_with fail
  refine (alive_any _ (HT.out.below HBW.out)).mono ?_
  rintro e w1 ⟨rfl, hb1⟩
  replace F_g := Lib.hid (F_g.out.keep hb1)
  replace F_v := Lib.hid (F_v.out.keep hb1)
  replace F_a := Lib.hid (F_a.out.keep hb1)
  replace F_b := Lib.hid (F_b.out.keep hb1)
  replace HBW := Lib.hid (HBW.out.trans (hb1.mono HBW.out.size))
  clear hb1
  have q_v_0 := F_v.out.c 0 _ rfl
  have q_v_1 := F_v.out.c 1 _ rfl
  have q_v_2 := F_v.out.c 2 _ rfl
  have q_v_3 := F_v.out.c 3 _ rfl
  have q_v_4 := F_v.out.c 4 _ rfl
  have q_v_5 := F_v.out.c 5 _ rfl
  have q_v_6 := F_v.out.c 6 _ rfl
  have q_v_7 := F_v.out.c 7 _ rfl
  have q_v_8 := F_v.out.c 8 _ rfl
  have q_v_9 := F_v.out.c 9 _ rfl
  have q_v_10 := F_v.out.c 10 _ rfl
  go_wp2_with fail
  clear q_v_0 q_v_1 q_v_2 q_v_3 q_v_4 q_v_5 q_v_6 q_v_7 q_v_8 q_v_9 q_v_10
  refine (greatV_any (V := V) _).mono ?_
  rintro e w2 ⟨rfl, hb2⟩
  replace F_g := Lib.hid (F_g.out.keep hb2)
  replace F_v := Lib.hid (F_v.out.keep hb2)
  replace F_a := Lib.hid (F_a.out.keep hb2)
  replace F_b := Lib.hid (F_b.out.keep hb2)
  replace HBW := Lib.hid (HBW.out.trans (hb2.mono HBW.out.size))
  clear hb2
  cases hg : greatV V with
  | true =>
    go_wp2_with fail
    go_ret
    exact ⟨rfl, HBW.out⟩
  | false =>
  by_cases hq1 : 20 < R.n
  case pos =>
    have hd : decide ((20 : Int) < (R.n : Int)) = true := decide_eq_true (by omega)
    have q_a_0 := F_a.out.c 0 _ rfl
    have q_a_1 := F_a.out.c 1 _ rfl
    have q_b_0 := F_b.out.c 0 _ rfl
    have q_b_1 := F_b.out.c 1 _ rfl
    go_wp2_with fail
    clear q_a_0 q_a_1 q_b_0 q_b_1
    go_ret
    exact ⟨rfl, HBW.out⟩
  case neg =>
  have hd1 : decide ((20 : Int) < (R.n : Int)) = false := decide_eq_false (by omega)
  by_cases hq2 : 20 < S.n
  case pos =>
    have hd : decide ((20 : Int) < (S.n : Int)) = true := decide_eq_true (by omega)
    have q_a_0 := F_a.out.c 0 _ rfl
    have q_a_1 := F_a.out.c 1 _ rfl
    have q_b_0 := F_b.out.c 0 _ rfl
    have q_b_1 := F_b.out.c 1 _ rfl
    go_wp2_with fail
    clear q_a_0 q_a_1 q_b_0 q_b_1
    go_ret
    exact ⟨rfl, HBW.out⟩
  case neg =>
  have hd2 : decide ((20 : Int) < (S.n : Int)) = false := decide_eq_false (by omega)
  by_cases hq3 : 20 < R.m
  case pos =>
    have hd : decide ((20 : Int) < (R.m : Int)) = true := decide_eq_true (by omega)
    have q_a_0 := F_a.out.c 0 _ rfl
    have q_a_1 := F_a.out.c 1 _ rfl
    have q_b_0 := F_b.out.c 0 _ rfl
    have q_b_1 := F_b.out.c 1 _ rfl
    go_wp2_with fail
    clear q_a_0 q_a_1 q_b_0 q_b_1
    go_ret
    exact ⟨rfl, HBW.out⟩
  case neg =>
  have hd3 : decide ((20 : Int) < (R.m : Int)) = false := decide_eq_false (by omega)
  by_cases hq4 : 20 < S.m
  case pos =>
    have hd : decide ((20 : Int) < (S.m : Int)) = true := decide_eq_true (by omega)
    have q_a_0 := F_a.out.c 0 _ rfl
    have q_a_1 := F_a.out.c 1 _ rfl
    have q_b_0 := F_b.out.c 0 _ rfl
    have q_b_1 := F_b.out.c 1 _ rfl
    go_wp2_with fail
    clear q_a_0 q_a_1 q_b_0 q_b_1
    go_ret
    exact ⟨rfl, HBW.out⟩
  case neg =>
  have hd4 : decide ((20 : Int) < (S.m : Int)) = false := decide_eq_false (by omega)
  have q_a_0 := F_a.out.c 0 _ rfl
  have q_a_1 := F_a.out.c 1 _ rfl
  have q_b_0 := F_b.out.c 0 _ rfl
  have q_b_1 := F_b.out.c 1 _ rfl
  have q_g_0 := F_g.out.c 0 _ rfl
  have q_g_1 := F_g.out.c 1 _ rfl
  have q_g_2 := F_g.out.c 2 _ rfl
  go_wp2_with fail
  clear q_a_0 q_a_1 q_b_0 q_b_1 q_g_0 q_g_1 q_g_2
  refine (member36_any _ hP hQ hG hy).mono ?_
  rintro e w3 ⟨⟨r, rfl, hr⟩, hb3⟩
  replace F_g := Lib.hid (F_g.out.keep hb3)
  replace F_v := Lib.hid (F_v.out.keep hb3)
  replace F_a := Lib.hid (F_a.out.keep hb3)
  replace F_b := Lib.hid (F_b.out.keep hb3)
  replace HBW := Lib.hid (HBW.out.trans (hb3.mono HBW.out.size))
  clear hb3
  have HM := Lib.hid hr
  clear hr
  cases r with
  | false =>
    go_wp2_with fail
    go_ret
    exact ⟨rfl, HBW.out⟩
  | true =>
  have HG := Lib.hid (HM.out.1 rfl)
  clear HM
  have q_g_0 := F_g.out.c 0 _ rfl
  have q_g_1 := F_g.out.c 1 _ rfl
  have q_g_2 := F_g.out.c 2 _ rfl
  have q_v_0 := F_v.out.c 0 _ rfl
  have q_v_1 := F_v.out.c 1 _ rfl
  have q_v_2 := F_v.out.c 2 _ rfl
  have q_v_3 := F_v.out.c 3 _ rfl
  have q_v_4 := F_v.out.c 4 _ rfl
  have q_v_5 := F_v.out.c 5 _ rfl
  have q_v_6 := F_v.out.c 6 _ rfl
  have q_v_7 := F_v.out.c 7 _ rfl
  have q_v_8 := F_v.out.c 8 _ rfl
  have q_v_9 := F_v.out.c 9 _ rfl
  have q_v_10 := F_v.out.c 10 _ rfl
  have q_a_0 := F_a.out.c 0 _ rfl
  have q_a_1 := F_a.out.c 1 _ rfl
  go_wp2_with fail
  clear q_g_0 q_g_1 q_g_2 q_v_0 q_v_1 q_v_2 q_v_3 q_v_4 q_v_5 q_v_6 q_v_7 q_v_8 q_v_9 q_v_10 q_a_0 q_a_1
  refine (matches_gen _ (HT.out.below HBW.out) hP hQ hG hy (HV.out.keep HBW.out) (HR.out.keep HBW.out) (by omega)).mono ?_
  rintro e w4 ⟨⟨b1, c1, rfl, hm1⟩, hb4⟩
  have HM1 := Lib.hid hm1
  clear hm1
  replace F_g := Lib.hid (F_g.out.keep hb4)
  replace F_v := Lib.hid (F_v.out.keep hb4)
  replace F_a := Lib.hid (F_a.out.keep hb4)
  replace F_b := Lib.hid (F_b.out.keep hb4)
  replace HBW := Lib.hid (HBW.out.trans (hb4.mono HBW.out.size))
  clear hb4
  have q_g_0 := F_g.out.c 0 _ rfl
  have q_g_1 := F_g.out.c 1 _ rfl
  have q_g_2 := F_g.out.c 2 _ rfl
  have q_v_0 := F_v.out.c 0 _ rfl
  have q_v_1 := F_v.out.c 1 _ rfl
  have q_v_2 := F_v.out.c 2 _ rfl
  have q_v_3 := F_v.out.c 3 _ rfl
  have q_v_4 := F_v.out.c 4 _ rfl
  have q_v_5 := F_v.out.c 5 _ rfl
  have q_v_6 := F_v.out.c 6 _ rfl
  have q_v_7 := F_v.out.c 7 _ rfl
  have q_v_8 := F_v.out.c 8 _ rfl
  have q_v_9 := F_v.out.c 9 _ rfl
  have q_v_10 := F_v.out.c 10 _ rfl
  have q_b_0 := F_b.out.c 0 _ rfl
  have q_b_1 := F_b.out.c 1 _ rfl
  go_wp2_with fail
  clear q_g_0 q_g_1 q_g_2 q_v_0 q_v_1 q_v_2 q_v_3 q_v_4 q_v_5 q_v_6 q_v_7 q_v_8 q_v_9 q_v_10 q_b_0 q_b_1
  refine (matches_gen _ (HT.out.below HBW.out) hP hQ hG hy (HV.out.keep HBW.out) (HS.out.keep HBW.out) (by omega)).mono ?_
  rintro e w5 ⟨⟨b2, c2, rfl, hm2⟩, hb5⟩
  have HM2 := Lib.hid hm2
  clear hm2
  replace F_g := Lib.hid (F_g.out.keep hb5)
  replace F_v := Lib.hid (F_v.out.keep hb5)
  replace F_a := Lib.hid (F_a.out.keep hb5)
  replace F_b := Lib.hid (F_b.out.keep hb5)
  replace HBW := Lib.hid (HBW.out.trans (hb5.mono HBW.out.size))
  clear hb5
  by_cases hc1 : c1 = 0
  case neg =>
    go_wp2_with fail
    go_ret
    exact ⟨rfl, HBW.out⟩
  case pos =>
  subst hc1
  by_cases hc2 : c2 = 0
  case neg =>
    go_wp2_with fail
    go_ret
    exact ⟨rfl, HBW.out⟩
  case pos =>
  subst hc2
  cases b1 with
  | false =>
    go_wp2_with fail
    go_ret
    exact ⟨rfl, HBW.out⟩
  | true =>
  cases b2 with
  | false =>
    go_wp2_with fail
    go_ret
    exact ⟨rfl, HBW.out⟩
  | true =>
  have HE := Lib.hid (reveals_eq HG.out.1.grp HG.out.2 HR.out HS.out (HM1.out rfl rfl).1 (HM2.out rfl rfl).1 (HM1.out rfl rfl).2 (HM2.out rfl rfl).2)
  have q_a_0 := F_a.out.c 0 _ rfl
  have q_a_1 := F_a.out.c 1 _ rfl
  have q_b_0 := F_b.out.c 0 _ rfl
  have q_b_1 := F_b.out.c 1 _ rfl
  go_wp2_with fail
  clear q_a_0 q_a_1 q_b_0 q_b_1
  refine (rReveal_any _ (HR.out.keep HBW.out) (HS.out.keep HBW.out) HE.out.1 HE.out.2 (by omega) (by omega)).mono ?_
  rintro e w6 ⟨rfl, hb6⟩
  replace F_g := Lib.hid (F_g.out.keep hb6)
  replace F_v := Lib.hid (F_v.out.keep hb6)
  replace F_a := Lib.hid (F_a.out.keep hb6)
  replace F_b := Lib.hid (F_b.out.keep hb6)
  replace HBW := Lib.hid (HBW.out.trans (hb6.mono HBW.out.size))
  clear hb6
  go_wp2_with fail
  go_ret
  exact ⟨rfl, HBW.out⟩


set_option maxRecDepth 100000 in
theorem lifted (os : Os) (started : os.Started) (H : Type) (enc : TypeId × Value → H) :
    ReturnsInHanded {} Tryd.checked os 6 .any (fun w args => (Rows.boothRevealsSpec.pre enc Tryd.prog Tryd.f6 [] false w args ∧ laidMetH Tryd.prog laidL w) ∧ sizedMet enc Tryd.prog Tryd.f6 (OpenSpec.ofChange Rows.boothRevealsSpec) false w args) (Rows.boothRevealsSpec.post enc Tryd.prog Tryd.f6 false true false false) := by
  refine returnsInHanded_of_change_and (C := Tryd.checked) (X := fun w _ => laidMetH Tryd.prog laidL w) (fun _ _ _ hh h => h.of_heap hh) own started (by kernel_rfl) Tryd.func6
    (ChangeSpec.witness_shaped (enc := enc) (C := Tryd.checked) (os := os) (X := fun w _ => laidMetH Tryd.prog laidL w) false (World.doorLaid Tryd.prog 19 os) #[.agg #[.int .u64 0, .int .u64 0, .int .u64 0], .int .u64 0, .int .i64 0, .agg #[.slice none 0 0, .slice none 0 0, .bool false, .int .u64 0, .int .u64 0, .int .u64 0, .int .u64 0, .int .u64 0, .int .u64 0, .int .u64 0, .int .u64 0], .agg #[.slice none 0 0, .slice none 0 0], .agg #[.slice none 0 0, .slice none 0 0]] 8 rfl (World.shaped_of_RefB (by kernel_rfl) (by kernel_rfl)) (by kernel_rfl) (by kernel_rfl) (by kernel_rfl) (door_met os _)) ?_
  intro W base args ds gs before hval0 hW _ _ hL _
  have hT := tabs_of_laid hL
  clear hL
  have hval : ∀ (j : Nat) t v, Tryd.f6.params[j]? = some t → args[j]? = some v → Value.okWide Tryd.prog W .any base t v := hval0
  have hW' := hW
  obtain ⟨p, q, hA0, hV, rfl, hfz, hnd⟩ := hW
  have hA : DataW.TrodAll enc Tryd.prog W 0 (fun _ => true) true Tryd.f6.params.toList args.toList ds p := hA0
  rw [Tryd.params6] at hA hval
  have hK := hA
  obtain ⟨v0, vs0, d0, ds0, p0, q0, hargs, rfl, rfl, h0, r0⟩ := trodAll_cons hA
  obtain ⟨v1, vs1, d1, ds1, p1, q1, rfl, rfl, rfl, h1, r1⟩ := trodAll_cons r0
  obtain ⟨v2, vs2, d2, ds2, p2, q2, rfl, rfl, rfl, h2, r2⟩ := trodAll_cons r1
  obtain ⟨v3, vs3, d3, ds3, p3, q3, rfl, rfl, rfl, h3, r3⟩ := trodAll_cons r2
  obtain ⟨v4, vs4, d4, ds4, p4, q4, rfl, rfl, rfl, h4, r4⟩ := trodAll_cons r3
  obtain ⟨v5, vs5, d5, ds5, p5, q5, rfl, rfl, rfl, h5, r5⟩ := trodAll_cons r4
  obtain ⟨rfl, rfl, rfl⟩ := trodAll_nil r5
  obtain rfl : args = #[v0, v1, v2, v3, v4, v5] := by cases args; simp_all
  obtain ⟨rfl, rfl⟩ := trodVars_none hV
  obtain ⟨P, Q, G, rfl, uP, uQ, uG⟩ := open_group (hval 0 49 v0 rfl rfl) h0
  obtain ⟨y, rfl, uy⟩ := open_u64 (hval 1 24 v1 rfl rfl) h1
  obtain ⟨n, rfl, hn⟩ := open_i64 (hval 2 3 v2 rfl rfl) h2
  obtain ⟨V, rfl, hV⟩ := open_vote (hval 3 29 v3 rfl rfl) h3
  obtain ⟨R, rfl, hR⟩ := open_reveal (hval 4 57 v4 rfl rfl) h4
  obtain ⟨S, rfl, hS⟩ := open_reveal (hval 5 57 v5 rfl rfl) h5
  clear hA0 hval0
  refine (walk P Q G y n V R S W uP uQ uG uy hn hV hR hS hT).mono fun e W' ⟨he, bel⟩ => ?_
  subst he
  exact ⟨_, rfl, _, _, _, [], _, [], hW', trodAll_mk1 (shut_bool Tryd.underlying4 _), trodAll_stays laidOut (by kernel_rfl) hK bel, rfl, bel.frame _, fun h => by cases h⟩

theorem over : Rows.boothRevealsRow.holds Tryd.pinned (OpenSpec.ofChange Rows.boothRevealsSpec) :=
  OpenClaim.holds_of_wide 6 Tryd.f6 rfl rfl rfl rfl rfl rfl rfl ⟨rfl, rfl, rfl, rfl, rfl⟩ rfl rfl rfl rfl rfl (by kernel_rfl) Tryd.func6 (by kernel_rfl)
    (of_decide_eq_true (by kernel_rfl)) (by unfold Func.isWrapper; first | (rw [if_pos (by decide +kernel)]; kernel_rfl) | (rw [if_neg (by decide +kernel)]; exact ⟨rfl, rfl⟩))
    (fun os started H enc _ => lifted os started H enc)

theorem proved : Rows.BoothRevealsCardSaid :=
  Claim7.holds_tied_plain_at .later [] [.data, .data] true (true, "5c00805133dfe0492bef048290696ebc112b228b3b9245def032e3bbb51dd56e") false
    over (fun _ h => by cases h) (by kernel_rfl) (fun _ h => by cases h) boothReveals_row_tie rfl ⟨rfl, rfl⟩ (by kernel_rfl) rfl
    (fun f fn hf hfn => by
      obtain rfl : f = 6 := Option.some.inj ((show Tryd.prog.funcNamed "suffrage/suffragelaw36.BoothReveals" = some 6 by kernel_rfl).symm.trans hf) |>.symm
      obtain rfl : fn = Tryd.f6 := (Option.some.inj (Tryd.func6.symm.trans hfn)).symm
      exact ⟨by kernel_rfl, fun j t ht => by
        rw [Tryd.params6] at ht
        have hm : t ∈ ([49, 24, 3, 29, 57, 57] : List TypeId) := by simpa using Array.mem_of_getElem? ht
        have hall : (([49, 24, 3, 29, 57, 57] : List TypeId).all fun u => !Tryd.prog.wantsStandIn u) = true := by kernel_rfl
        exact (show Tryd.prog.wantsStandIn t = false by simpa using List.all_eq_true.1 hall t hm)⟩)
    (by kernel_rfl)
#print axioms proved
end Go.Proofs.YtlbldpkgnonbpaaDoor.lawRev
