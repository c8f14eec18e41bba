/- BoothSeals: the statement: for every input the law returns true, and the arguments read as before. -/
import Derived.Test.YtlbldpkgnonbpaaDoorZsQ
import Derived.Test.YtlbldpkgnonbpaaDoorZsB
import Derived.Test.YtlbldpkgnonbpaaDoorZsR
import Derived.Test.YtlbldpkgnonbpaaDoorZs0
namespace Go.Proofs.YtlbldpkgnonbpaaDoor
open Go Go.RowKit Num Sha
set_option linter.unusedSimpArgs false
set_option linter.unusedVariables false
set_option maxHeartbeats 1000000 in
theorem gcheck36 (P Q G c : Int) (w : World) (hP : 0 ≤ P) (hQ : 0 ≤ Q) (hG : 0 ≤ G) (hr : ValidS P Q G c) :
    Calls Tryd.prog 54 #[.agg #[.int .u64 P, .int .u64 Q, .int .u64 G]] w fun e w' => e = .returned (.int .i64 c) ∧ Below w.heap.size w w' := by
  have HR := Lib.hid hr
  clear hr
  by_cases hH : Has P Q G
  case neg =>
    have HC := Lib.hid (HR.out.no fun h => hH h.1)
    have HH := Lib.hid hH
    clear hH
    go_enter Tryd.func54, Tryd.ntmps54
    go_wp2_with fail
    refine (form_no P Q G _ hP hQ hG HH.out).mono ?_
    rintro e w1 ⟨rfl, hb1⟩
    go_wp2
    go_ret
    exact ⟨ret_int HC.out.symm, ((Below.refl _ _).alloc (Nat.le_refl _) _).trans (hb1.mono (by simp))⟩
  case pos =>
    obtain ⟨p5, p3, _, pq, g2, gP⟩ := id hH
    have q3 : Q < 1073741824 := by omega
    have HX := Lib.hid (U64.of_lt hQ (by omega))
    have HH := Lib.hid hH
    clear hH pq
    by_cases h1 : Pr P
    case neg =>
      have HC := Lib.hid (HR.out.no fun h => h1 h.2.1)
      have H1 := Lib.hid h1
      clear h1
      go_enter Tryd.func54, Tryd.ntmps54
      go_wp2_with fail
      refine (form_yes P Q G _ HH.out).mono ?_
      rintro e w1 ⟨rfl, hb1⟩
      obtain ⟨hc, hf⟩ := bcell hb1
      have hz := hb1.size
      go_wp2_with fail
      refine (prime_any P false _ hP p3 (by simp [H1.out])).mono ?_
      rintro e w2 ⟨rfl, rfl⟩
      go_wp2
      go_ret
      exact ⟨ret_int HC.out.symm, ((Below.refl _ _).alloc (Nat.le_refl _) _).trans (hb1.mono (by simp))⟩
    case pos =>
      have H1 := Lib.hid h1
      clear h1
      by_cases h2 : Pr Q
      case neg =>
        have HC := Lib.hid (HR.out.no fun h => h2 h.2.2.1)
        have H2 := Lib.hid h2
        clear h2
        go_enter Tryd.func54, Tryd.ntmps54
        go_wp2_with fail
        refine (form_yes P Q G _ HH.out).mono ?_
        rintro e w1 ⟨rfl, hb1⟩
        obtain ⟨hc, hf⟩ := bcell hb1
        have hz := hb1.size
        go_wp2_with fail
        refine (prime_any P true _ hP p3 (by simp [H1.out])).mono ?_
        rintro e w2 ⟨rfl, rfl⟩
        go_wp2_with fail
        refine (prime_any Q false _ hQ (by omega) (by simp [H2.out])).mono ?_
        rintro e w2 ⟨rfl, rfl⟩
        go_wp2
        go_ret
        exact ⟨ret_int HC.out.symm, ((Below.refl _ _).alloc (Nat.le_refl _) _).trans (hb1.mono (by simp))⟩
      case pos =>
        have H2 := Lib.hid h2
        clear h2
        by_cases h3 : powm G Q P = 1
        case neg =>
          have HC := Lib.hid (HR.out.no fun h => h3 h.2.2.2)
          have hb : (powm G Q P != 1) = true := by simpa using h3
          clear h3
          go_enter Tryd.func54, Tryd.ntmps54
          go_wp2_with fail
          refine (form_yes P Q G _ HH.out).mono ?_
          rintro e w1 ⟨rfl, hb1⟩
          obtain ⟨hc, hf⟩ := bcell hb1
          have hz := hb1.size
          go_wp2_with fail
          refine (prime_any P true _ hP p3 (by simp [H1.out])).mono ?_
          rintro e w2 ⟨rfl, rfl⟩
          go_wp2_with fail
          refine (prime_any Q true _ hQ (by omega) (by simp [H2.out])).mono ?_
          rintro e w2 ⟨rfl, rfl⟩
          go_wp2_with fail
          refine (power_any G Q P _ _ hG HX.out (by omega) p3 rfl).mono ?_
          rintro e w2 ⟨rfl, rfl⟩
          go_wp2
          go_ret
          exact ⟨ret_int HC.out.symm, ((Below.refl _ _).alloc (Nat.le_refl _) _).trans (hb1.mono (by simp))⟩
        case pos =>
          have HC := Lib.hid (HR.out.yes ⟨HH.out, H1.out, H2.out, h3⟩)
          have H3 := Lib.hid h3
          clear h3
          go_enter Tryd.func54, Tryd.ntmps54
          go_wp2_with fail
          refine (form_yes P Q G _ HH.out).mono ?_
          rintro e w1 ⟨rfl, hb1⟩
          obtain ⟨hc, hf⟩ := bcell hb1
          have hz := hb1.size
          go_wp2_with fail
          refine (prime_any P true _ hP p3 (by simp [H1.out])).mono ?_
          rintro e w2 ⟨rfl, rfl⟩
          go_wp2_with fail
          refine (prime_any Q true _ hQ (by omega) (by simp [H2.out])).mono ?_
          rintro e w2 ⟨rfl, rfl⟩
          go_wp2_with fail
          refine (power_any G Q P 1 _ hG HX.out (by omega) p3 H3.out).mono ?_
          rintro e w2 ⟨rfl, rfl⟩
          go_wp2
          go_ret
          exact ⟨ret_int HC.out.symm, ((Below.refl _ _).alloc (Nat.le_refl _) _).trans (hb1.mono (by simp))⟩


set_option maxRecDepth 100000 in
set_option maxHeartbeats 8000000 in
theorem member36_any {P Q G a : Int} (w : World) (hP : 0 ≤ P) (hQ : 0 ≤ Q) (hG : 0 ≤ G) (a0 : 0 ≤ a) :
    Calls Tryd.prog 25 #[.agg #[.int .u64 P, .int .u64 Q, .int .u64 G], .int .u64 a] w fun e w' => (∃ r : Bool, e = .returned (.bool r) ∧ (r = true ↔ Valid P Q G ∧ Mem P Q a)) ∧ Below w.heap.size w w' := by
  obtain ⟨v, hv⟩ := ValidS.exists P Q G
  have HV := Lib.hid hv
  clear hv
  have F_g := Lib.hid (Cl.at w [.int .u64 P, .int .u64 Q, .int .u64 G] 49 w.heap.size rfl)
  have HBW := Lib.hid (show Below w.heap.size w (w.alloc (.cells #[.int .u64 P, .int .u64 Q, .int .u64 G] 49)) from (Below.refl _ _).alloc (Nat.le_refl _) _)
  obtain ⟨r, c, hr, hiff⟩ : ∃ (r : Bool) (c : Int), RetB (checkS P Q G P [a]) (Mem P Q a) r c ∧ ((decide (v = 0) && decide (c = 0) && r) = true ↔ Valid P Q G ∧ Mem P Q a) := by
    have hvv : v = 0 ↔ Valid P Q G := by rcases HV.out with ⟨h, rfl⟩ | ⟨h, rfl⟩ <;> simp [h]
    by_cases hc : checkS P Q G P [a] = 0
    · by_cases hm : Mem P Q a
      · exact ⟨true, 0, .inl ⟨hc, by simp [hm], rfl⟩, by simp [hm, hvv]⟩
      · exact ⟨false, 0, .inl ⟨hc, by simp [hm], rfl⟩, by simp [hm]⟩
    · refine ⟨false, _, .inr ⟨hc, rfl, rfl⟩, ?_⟩
      simp only [Bool.and_false, Bool.false_eq_true, false_iff]
      rintro ⟨h1, h2⟩
      exact hc (by rw [checkS, if_pos h1.has]; simp [okAll, h2.2.1])
  have HM := Lib.hid hr
  have HI := Lib.hid hiff
  clear hr hiff
  go_enter Tryd.func25, Tryd.ntmps25
  have g0 := F_g.out.c 0 _ rfl
  have g1 := F_g.out.c 1 _ rfl
  have g2 := F_g.out.c 2 _ rfl
  go_wp2_with fail
  clear g0 g1 g2
  refine (member_gen hP hQ hG _ a0 HM.out).mono ?_
  rintro e w1 ⟨rfl, hb1⟩
  replace F_g := Lib.hid (F_g.out.keep hb1)
  replace HBW := Lib.hid (HBW.out.trans (hb1.mono HBW.out.size))
  clear hb1
  have g0 := F_g.out.c 0 _ rfl
  have g1 := F_g.out.c 1 _ rfl
  have g2 := F_g.out.c 2 _ rfl
  go_wp2_with fail
  clear g0 g1 g2
  refine (gcheck36 P Q G v _ hP hQ hG HV.out).mono ?_
  rintro e w2 ⟨rfl, hb2⟩
  replace HBW := Lib.hid (HBW.out.trans (hb2.mono HBW.out.size))
  clear hb2
  by_cases hv0 : v = 0
  case neg =>
    go_wp2_with fail
    go_ret
    exact ⟨⟨_, rfl, by have := HI.out; simp [hv0] at this; simpa using this⟩, HBW.out⟩
  case pos =>
  by_cases hc0 : c = 0
  case neg =>
    go_wp2_with fail
    go_ret
    exact ⟨⟨_, rfl, by have := HI.out; simp [hv0, hc0] at this; simpa using this⟩, HBW.out⟩
  case pos =>
  go_wp2_with fail
  go_ret
  exact ⟨⟨r, rfl, by have := HI.out; simpa [hv0, hc0] using this⟩, HBW.out⟩

end Go.Proofs.YtlbldpkgnonbpaaDoor
namespace Go.Proofs.YtlbldpkgnonbpaaDoor
open Go.ChangeShapes Go.WideShapes Go.ChangeAt Go.RowKit Num
set_option linter.unusedSimpArgs false
set_option linter.unusedVariables false
theorem open_numsF {P : Program} {H : Type} {enc : TypeId × Value → H} {w : World} {base : Nat} {held : Bool} {t e : TypeId} {q : IntKind} {fuel : Nat} {v0 : Value} {y : DataW H × List MemPlace} (ht : P.underlying t = some (.slice e)) (he : P.underlying e = some (.int q)) (hc1 : P.cellsOf e = 1) (hf : DataW.trod enc P w base (fun _ => true) held fuel t [v0] = some y) :
    ∃ a n c xs, v0 = .slice a n c ∧ ShI q w a n xs ∧ (∀ x, x ∈ xs → (Lit.int q x).wf = true) ∧ (a = none → c = 0) ∧ n ≤ c ∧ c ≤ 9223372036854775807 := by
  rcases open_ints ht he hc1 hf with ⟨hcs, -⟩ | ⟨a, len, cap, zs, hcs, -, hl, hm, hz, -, hcell, hw⟩
  · simp at hcs
    exact ⟨none, 0, 0, [], hcs, .inl ⟨rfl, rfl⟩, (fun q hq => by cases hq), (fun _ => rfl), Nat.le_refl _, Nat.zero_le _⟩
  · simp at hcs
    subst hcs
    have hmc : zs.length = cap := by simpa using hz
    by_cases hl0 : len = 0
    · subst hl0
      exact ⟨_, _, _, [], rfl, .inl ⟨rfl, rfl⟩, (fun q hq => by cases hq), (fun h => by cases h), hl, by unfold maxLen at hm; omega⟩
    · obtain ⟨b, off, spot⟩ := a
      have g0 := hcell 0 (by omega)
      have hspot : spot = none := by simpa [Addr.add] using World.cell?_spot g0
      subst hspot
      have hlt : b < w.heap.size := by
        have := World.block_lt_of_cell? w _ g0
        simpa [add_plain'] using this
      refine ⟨_, _, _, zs.take len, rfl, .inr ⟨b, off, rfl, by simp; omega, hlt, fun i hi => ?_⟩, fun z hz => hw z (List.mem_of_mem_take hz), (fun h => by cases h), hl, by unfold maxLen at hm; omega⟩
      have hi' : i < len ∧ i < zs.length := by simp at hi; omega
      have e : (zs.take len).getD i 0 = zs.getD i 0 := by simp [List.getD_eq_getElem?_getD, List.getElem?_take, hi'.1]
      rw [e, ← add_plain']; exact hcell i hi'.2
theorem wf_i64 {x : Int} (h : (Lit.int .i64 x).wf = true) : -9223372036854775808 ≤ x ∧ x ≤ 9223372036854775807 := by
  have h := bounds_i64 h
  exact ⟨h.1, by have := h.2; omega⟩
set_option maxRecDepth 100000 in
theorem open_marks {H : Type} {enc : TypeId × Value → H} {w : World} {base : Nat} {held : Bool} {r : Reach} {b0 : Nat} {v : Value} {d : DataW H} {p : List MemPlace} (hv : Value.okWide Tryd.prog w r b0 54 v) (h : DataW.Trod enc Tryd.prog w base (fun _ => true) held 54 v d p) :
    ∃ a n c xs, v = .slice a n c ∧ ShI .i64 w a n xs ∧ (∀ x, x ∈ xs → -9223372036854775808 ≤ x ∧ x ≤ 9223372036854775807) ∧ (a = none → c = 0) ∧ n ≤ 9223372036854775807 := by
  obtain ⟨a0, l0, c0, rfl⟩ := okWide_slice Tryd.underlying54 hv
  obtain ⟨fuel, hf⟩ := h
  obtain ⟨a, n, c, xs, h1, h2, h3, h4, h5, h6⟩ := open_numsF Tryd.underlying54 Tryd.underlying3 (by kernel_rfl) (show DataW.trod enc Tryd.prog w base (fun _ => true) held fuel 54 [.slice a0 l0 c0] = some _ from hf)
  exact ⟨a, n, c, xs, h1, h2, fun x hx => wf_i64 (h3 x hx), h4, by omega⟩
end Go.Proofs.YtlbldpkgnonbpaaDoor
namespace Go.Proofs.YtlbldpkgnonbpaaDoor
open Go.ChangeShapes Go.WideShapes Go.ChangeAt Go.RowKit

theorem okWide_array {P : Program} {w : World} {r : Reach} {b0 : Nat} {t : TypeId} {n : Nat} {e : TypeId} {v : Value} (ht : P.underlying t = some (.array n e)) (h : Value.okWide P w r b0 t v) : ∃ cs, v = .agg cs ∧ cs.size = P.cellsOf t := by
  unfold Value.okWide at h
  rw [ht] at h
  obtain ⟨cs, h1, h2, _⟩ := h
  exact ⟨cs, h1, h2⟩

section
variable {H : Type} {enc : TypeId × Value → H} {w : World} {base : Nat} {spare : Nat → Bool} {held : Bool} {r : Reach} {b0 : Nat} {v : Value} {d : DataW H} {p : List MemPlace}
set_option maxRecDepth 100000 in
theorem open_d32 (hv : Value.okWide Tryd.prog w r b0 37 v) (h : DataW.Trod enc Tryd.prog w base spare held 37 v d p) :
    ∃ bs : List Int, v = .agg (byteV bs) ∧ bs.length = 32 ∧ Bytes bs := by
  obtain ⟨cs, rfl, hsz⟩ := okWide_array Tryd.underlying37 hv
  obtain ⟨fuel, hf⟩ := h
  simp only [Value.cells] at hf
  obtain ⟨xs, m, _, _, hl, hn, hx⟩ := DataW.trod_array Tryd.underlying37 hf
  have h1 : Tryd.prog.cellsOf 5 = 1 := by kernel_rfl
  have h32 : cs.size = 32 := by rw [hsz]; kernel_rfl
  have key : ∀ i (hi : i < cs.toList.length), ∃ n, cs.toList[i] = .int .u8 n ∧ (Lit.int .u8 n).wf = true := by
    intro i hi
    have hi' : i < 32 := by simpa [h32] using hi
    have := hx i hi'
    rw [h1, Nat.mul_one, List.getElem?_eq_getElem (by omega)] at this
    obtain ⟨n, e, _, hw⟩ := DataW.trod_int Tryd.underlying5 this
    refine ⟨n, ?_, hw⟩
    rw [List.drop_eq_getElem_cons hi] at e
    simpa using e
  refine ⟨cs.toList.map intOf, ?_, by simp [h32], ?_⟩
  · congr 1
    apply Array.toList_inj.1
    unfold byteV
    simp only [List.map_map]
    apply List.ext_getElem
    · simp
    · intro i h1 h2
      obtain ⟨n, e, _⟩ := key i h1
      simp only [List.getElem_map, Function.comp]
      rw [e]; rfl
  · intro b hb
    obtain ⟨c, hc, rfl⟩ := List.mem_map.1 hb
    obtain ⟨i, hi, rfl⟩ := List.getElem_of_mem hc
    obtain ⟨n, e, hw⟩ := key i hi
    rw [e]
    have := bounds_u8 hw
    exact ⟨this.1, by have := this.2; show n < 256; omega⟩
end
set_option maxRecDepth 100000 in
theorem open_boolT {H : Type} {enc : TypeId × Value → H} {w : World} {base : Nat} {spare : Nat → Bool} {held : Bool} {r : Reach} {b0 : Nat} {v : Value} {d : DataW H} {p : List MemPlace} (hv : Value.okWide Tryd.prog w r b0 4 v) (h : DataW.Trod enc Tryd.prog w base spare held 4 v d p) : ∃ b, v = .bool b ∧ True := by
  obtain ⟨x, e, -⟩ := open_bool Tryd.underlying4 hv h
  exact ⟨x, e, trivial⟩
end Go.Proofs.YtlbldpkgnonbpaaDoor
namespace Go.Proofs.YtlbldpkgnonbpaaDoor
open Go Go.RowKit Num Sha
set_option linter.unusedSimpArgs false
set_option linter.unusedVariables false

end Go.Proofs.YtlbldpkgnonbpaaDoor
namespace Go.Proofs.YtlbldpkgnonbpaaDoor.lawSeals
open Go Sha Go.ChangeShapes Go.WideShapes Go.ChangeAt Go.RowKit Num
set_option linter.unusedSimpArgs false
set_option linter.unusedVariables false

set_option maxRecDepth 100000 in
set_option maxHeartbeats 6400000 in
theorem walk (P Q G y n : Int) (a : Option Addr) (m c : Nat) (ms : List Int) (one : Bool) (seed : List Int) (w : World) (uP : U64 P) (uQ : U64 Q) (uG : U64 G) (uy : U64 y) (hn : -9223372036854775808 ≤ n ∧ n ≤ 9223372036854775807) (hS : ShI .i64 w a m ms) (hu : ∀ x, x ∈ ms → -9223372036854775808 ≤ x ∧ x ≤ 9223372036854775807) (hk : a = none → c = 0) (hm : m ≤ 9223372036854775807) (u1 : True) (hd1 : seed.length = 32) (hd2 : ByteL seed) (hT : Tabs w) :
    Calls Tryd.prog 5 #[.agg #[.int .u64 P, .int .u64 Q, .int .u64 G], .int .u64 y, .int .i64 n, .slice a m c, .bool one, .agg (valV .u8 seed)] w fun e w' => e = .returned (.bool true) ∧ Below w.heap.size w w' := by
  have HS := Lib.hid hS
  have HU := Lib.hid hu
  have HD := Lib.hid (And.intro hd1 hd2)
  have HT := Lib.hid hT
  clear hS hu hd1 hd2 hT hn u1
  have hP := uP.1
  have hQ := uQ.1
  have hG := uG.1
  have hy := uy.1
  clear uP uQ uG uy
  have F_g := Lib.hid (show Cl ((w.alloc (.cells #[.int .u64 P, .int .u64 Q, .int .u64 G] 49)).alloc (.cells (valV .u8 seed) 37)) w.heap.size [.int .u64 P, .int .u64 Q, .int .u64 G] from (Cl.at w [.int .u64 P, .int .u64 Q, .int .u64 G] 49 w.heap.size rfl).alloc _)
  have F_d := Lib.hid (show Arr .u8 ((w.alloc (.cells #[.int .u64 P, .int .u64 Q, .int .u64 G] 49)).alloc (.cells (valV .u8 seed) 37)) (w.heap.size + 1) seed from Arr.new .u8 (w.alloc (.cells #[.int .u64 P, .int .u64 Q, .int .u64 G] 49)) seed 37 (w.heap.size + 1) (by simp))
  have HBW := Lib.hid (show Below w.heap.size w ((w.alloc (.cells #[.int .u64 P, .int .u64 Q, .int .u64 G] 49)).alloc (.cells (valV .u8 seed) 37)) from ((Below.refl _ _).alloc (Nat.le_refl _) _).alloc (by simp) _)
  go_enter Tryd.func5, Tryd.ntmps5
  go_wp2_with fail
  refine (alive_any _ (HT.out.below HBW.out)).mono ?_
  rintro e w1 ⟨rfl, hb1⟩
  replace F_g := Lib.hid (F_g.out.keep hb1)
  replace F_d := Lib.hid (F_d.out.keep hb1)
  replace HBW := Lib.hid (HBW.out.trans (hb1.mono HBW.out.size))
  clear hb1
  have HSL := Lib.hid HD.out.1
  have q_g_0 := F_g.out.c 0 _ rfl
  have q_g_1 := F_g.out.c 1 _ rfl
  have q_g_2 := F_g.out.c 2 _ rfl
  go_wp2_with (refine wpL_loadArr rfl 37 .u8 (.tmp 11) (w.heap.size + 1) seed 32 5 rfl rfl Tryd.underlying37 (by rw [HSL.out]; kernel_rfl) F_d.out ?_; simp only [Act.put, sZc, sZa, sZb])
  clear q_g_0 q_g_1 q_g_2
  refine (seal_any _ (HT.out.below HBW.out) hP hQ hG hy (HS.out.keep HBW.out) hk HU.out hm HD.out.1 HD.out.2).mono ?_
  rintro e w2 hse
  obtain ⟨hb2, hca⟩ := hse.cases
  clear hse
  replace F_g := Lib.hid (F_g.out.keep hb2)
  replace F_d := Lib.hid (F_d.out.keep hb2)
  replace HBW := Lib.hid (HBW.out.trans (hb2.mono HBW.out.size))
  clear hb2
  obtain ⟨er, her, rfl, -, -⟩ | ⟨hse, V, R, rfl, hV, hR, hse2⟩ := hca
  ·
    go_wp2_with fail
    go_ret
    exact ⟨rfl, (HBW.out.alloc HBW.out.size _).alloc (Nat.le_trans HBW.out.size (by simp)) _⟩
  have HV := Lib.hid hV
  have HR := Lib.hid hR
  obtain ⟨hVn, hVm, hVo, hRn, hRms, hRm, hgood⟩ := hse2
  have hck : chkB P Q G y n = 0 := by
    unfold sealE at hse
    split at hse
    · next h => exact absurd hse h
    · next h => exact Classical.not_not.1 h
  obtain ⟨hHas, hyP, hn1, hn2⟩ := chkB_ok hck
  obtain rfl : n = (R.m : Int) := by omega
  obtain rfl : m = R.n := by rw [hRn]; exact HS.out.len
  subst hRms hVo
  have HX := Lib.hid (And.intro hck hgood)
  clear hse hck hgood hHas hyP hV hR hRn hRm hVn hVm
  unfold Vt.v Rv.v
  have F_x := Lib.hid (show Cl ((w2.alloc (.cells #[.slice V.a V.n V.c, .slice V.b V.m V.d, .bool V.one, .int .u64 V.z.r0, .int .u64 V.z.r1, .int .u64 V.z.s0, .int .u64 V.z.s1, .int .u64 V.z.c0, .int .u64 V.z.c1, .int .u64 V.z.z0, .int .u64 V.z.z1] 29)).alloc (.cells #[.slice R.a R.n R.c, .slice R.b R.m R.d] 57)) w2.heap.size [.slice V.a V.n V.c, .slice V.b V.m V.d, .bool V.one, .int .u64 V.z.r0, .int .u64 V.z.r1, .int .u64 V.z.s0, .int .u64 V.z.s1, .int .u64 V.z.c0, .int .u64 V.z.c1, .int .u64 V.z.z0, .int .u64 V.z.z1] from (Cl.at w2 [.slice V.a V.n V.c, .slice V.b V.m V.d, .bool V.one, .int .u64 V.z.r0, .int .u64 V.z.r1, .int .u64 V.z.s0, .int .u64 V.z.s1, .int .u64 V.z.c0, .int .u64 V.z.c1, .int .u64 V.z.z0, .int .u64 V.z.z1] 29 w2.heap.size rfl).alloc _)
  have F_r := Lib.hid (show Cl ((w2.alloc (.cells #[.slice V.a V.n V.c, .slice V.b V.m V.d, .bool V.one, .int .u64 V.z.r0, .int .u64 V.z.r1, .int .u64 V.z.s0, .int .u64 V.z.s1, .int .u64 V.z.c0, .int .u64 V.z.c1, .int .u64 V.z.z0, .int .u64 V.z.z1] 29)).alloc (.cells #[.slice R.a R.n R.c, .slice R.b R.m R.d] 57)) (w2.heap.size + 1) [.slice R.a R.n R.c, .slice R.b R.m R.d] from Cl.at (w2.alloc (.cells #[.slice V.a V.n V.c, .slice V.b V.m V.d, .bool V.one, .int .u64 V.z.r0, .int .u64 V.z.r1, .int .u64 V.z.s0, .int .u64 V.z.s1, .int .u64 V.z.c0, .int .u64 V.z.c1, .int .u64 V.z.z0, .int .u64 V.z.z1] 29)) [.slice R.a R.n R.c, .slice R.b R.m R.d] 57 (w2.heap.size + 1) (by simp))
  have HBX := Lib.hid (show Below w2.heap.size w2 ((w2.alloc (.cells #[.slice V.a V.n V.c, .slice V.b V.m V.d, .bool V.one, .int .u64 V.z.r0, .int .u64 V.z.r1, .int .u64 V.z.s0, .int .u64 V.z.s1, .int .u64 V.z.c0, .int .u64 V.z.c1, .int .u64 V.z.z0, .int .u64 V.z.z1] 29)).alloc (.cells #[.slice R.a R.n R.c, .slice R.b R.m R.d] 57)) from ((Below.refl _ _).alloc (Nat.le_refl _) _).alloc (by simp) _)
  replace F_g := Lib.hid (F_g.out.keep HBX.out)
  replace HV := Lib.hid (HV.out.keep HBX.out)
  replace HR := Lib.hid (HR.out.keep HBX.out)
  replace HBW := Lib.hid (HBW.out.trans (HBX.out.mono HBW.out.size))
  clear F_d HBX
  by_cases h20 : 20 < R.n
  case pos =>
    have hd : decide ((20 : Int) < (R.n : Int)) = true := decide_eq_true (by omega)
    go_wp2_with fail
    go_ret
    exact ⟨rfl, HBW.out⟩
  case neg =>
  have hd : decide ((20 : Int) < (R.n : Int)) = false := decide_eq_false (by omega)
  have q_g_0 := F_g.out.c 0 _ rfl
  have q_g_1 := F_g.out.c 1 _ rfl
  have q_g_2 := F_g.out.c 2 _ rfl
  go_wp2_with fail
  clear q_g_0 q_g_1 q_g_2
  refine (member36_any _ hP hQ hG hy).mono ?_
  rintro e w3 ⟨⟨r, rfl, hr⟩, hb3⟩
  replace F_g := Lib.hid (F_g.out.keep hb3)
  replace F_x := Lib.hid (F_x.out.keep hb3)
  replace F_r := Lib.hid (F_r.out.keep hb3)
  replace HV := Lib.hid (HV.out.keep hb3)
  replace HR := Lib.hid (HR.out.keep hb3)
  replace HBW := Lib.hid (HBW.out.trans (hb3.mono HBW.out.size))
  clear hb3
  have HM := Lib.hid hr
  clear hr hd
  cases r with
  | false =>
    go_wp2_with fail
    go_ret
    exact ⟨rfl, HBW.out⟩
  | true =>
  have HG := Lib.hid (HM.out.1 rfl)
  clear HM
  have q_x_0 := F_x.out.c 0 _ rfl
  have q_x_1 := F_x.out.c 1 _ rfl
  have q_x_2 := F_x.out.c 2 _ rfl
  have q_x_3 := F_x.out.c 3 _ rfl
  have q_x_4 := F_x.out.c 4 _ rfl
  have q_x_5 := F_x.out.c 5 _ rfl
  have q_x_6 := F_x.out.c 6 _ rfl
  have q_x_7 := F_x.out.c 7 _ rfl
  have q_x_8 := F_x.out.c 8 _ rfl
  have q_x_9 := F_x.out.c 9 _ rfl
  have q_x_10 := F_x.out.c 10 _ rfl
  have q_r_0 := F_r.out.c 0 _ rfl
  have q_r_1 := F_r.out.c 1 _ rfl
  go_wp2_with fail
  clear q_x_0 q_x_1 q_x_2 q_x_3 q_x_4 q_x_5 q_x_6 q_x_7 q_x_8 q_x_9 q_x_10 q_r_0 q_r_1
  obtain ⟨wb, rfl⟩ : ∃ wb, wb = w3 := ⟨_, rfl⟩
  go_loopw [17] (fun cv wr => ∃ (i : Nat), i ≤ R.n ∧ cv = .int .i64 i ∧ Hid (Cl wr w.heap.size [.int .u64 P, .int .u64 Q, .int .u64 G]) ∧ Hid (Cl wr w2.heap.size [.slice V.a V.n V.c, .slice V.b V.m V.d, .bool V.one, .int .u64 V.z.r0, .int .u64 V.z.r1, .int .u64 V.z.s0, .int .u64 V.z.s1, .int .u64 V.z.c0, .int .u64 V.z.c1, .int .u64 V.z.z0, .int .u64 V.z.z1]) ∧ Hid (Cl wr (w2.heap.size + 1) [.slice R.a R.n R.c, .slice R.b R.m R.d]) ∧ Hid (VtIn wr V) ∧ Hid (RvIn wr R) ∧ Hid (Below w.heap.size w wr)) (fun cv _ => R.n - (intOf cv).toNat)
  case atStart => exact ⟨0, by omega, rfl, F_g.out, F_x.out, F_r.out, HV.out, HR.out, HBW.out⟩
  case round =>
    clear F_g F_x F_r HV HR HBW
    obtain ⟨i, hi, rfl, F_g, F_x, F_r, HV, HR, HBW⟩ := hrel
    have hwi : IntKind.i64.wrap ((i : Int) + 1) = (i : Int) + 1 := IntWalk.i64_in _ (by omega)
    have hi0 : (0 : Int) ≤ (i : Int) := by omega
    have q0 := F_r.out.c 0 _ rfl
    have q1 := F_r.out.c 1 _ rfl
    by_cases hlt : i < R.n
    case pos =>
      have hi2 : (i : Int) < (R.n : Int) := by omega
      obtain ⟨s, o, hsa, hsl, e0, -⟩ := HR.out.h1.at i hlt
      obtain ⟨s', o', rfl, hsl', e0', -⟩ := (HS.out.keep HBW.out).at i hlt
      generalize R.ms.getD i 0 = x at e0 e0'
      rw [hsa] at q0
      clear hsa hsl hsl'
      go_wp2_with fail
      go_region
      go_wp2_with fail
      go_roundw
      case rel => exact ⟨i + 1, by omega, by go_num, F_g.out.drew, F_x.out.drew, F_r.out.drew, HV.out.keep (Below.refl _ _).drew, HR.out.keep (Below.refl _ _).drew, HBW.out.drew⟩
      case measure => simp [intOf] <;> omega
    case neg =>
    have hi2 : ¬ ((i : Int) < (R.n : Int)) := by omega
    obtain ⟨hval, hrange, hmatch⟩ := HX.out.2 HG.out.1.grp HG.out.2
    have HN := Lib.hid (And.intro hval (And.intro hrange hmatch))
    clear hval hrange hmatch
    have g0 := F_g.out.c 0 _ rfl
    have g1 := F_g.out.c 1 _ rfl
    have g2 := F_g.out.c 2 _ rfl
    obtain ⟨⟨v0, v1, v2, v3, v4, v5, v6, v7, v8, v9, v10⟩, -⟩ := F_x.out.k11
    go_wp2_with fail
    clear g0 g1 g2 v0 v1 v2 v3 v4 v5 v6 v7 v8 v9 v10 q0 q1 hi2 hwi
    refine (matches_any (V := V) (R := R) wr (HT.out.below HBW.out) hP hQ hG hy HV.out HR.out (by omega)).mono ?_
    rintro e w4 ⟨hb4, ⟨hc4, -⟩ | ⟨-, ⟨hr4, -⟩ | ⟨-, v4, rfl, hv4⟩⟩⟩
    · exact absurd HX.out.1 hc4
    · exact absurd HN.out.2.1 hr4
    rw [hv4.2 HN.out.2.2]
    clear hv4
    replace F_g := Lib.hid (F_g.out.keep hb4)
    replace F_x := Lib.hid (F_x.out.keep hb4)
    replace HV := Lib.hid (HV.out.keep hb4)
    replace HBW := Lib.hid (HBW.out.trans (hb4.mono HBW.out.size))
    clear hb4
    have g0 := F_g.out.c 0 _ rfl
    have g1 := F_g.out.c 1 _ rfl
    have g2 := F_g.out.c 2 _ rfl
    obtain ⟨⟨v0, v1, v2, v3, v4, v5, v6, v7, v8, v9, v10⟩, -⟩ := F_x.out.k11
    go_wp2_with fail
    clear g0 g1 g2 v0 v1 v2 v3 v4 v5 v6 v7 v8 v9 v10
    refine (check_any (V := V) (e' := 0) w4 (HT.out.below HBW.out) hP hQ hG hy HV.out (.inr ⟨HX.out.1, .inl ⟨HN.out.1, rfl⟩⟩)).mono ?_
    rintro e w5 ⟨rfl, hb5⟩
    replace HBW := Lib.hid (HBW.out.trans (hb5.mono HBW.out.size))
    clear hb5
    go_wp2_with fail
    go_ret
    exact ⟨rfl, HBW.out⟩


set_option maxRecDepth 100000 in
theorem lifted (os : Os) (started : os.Started) (H : Type) (enc : TypeId × Value → H) :
    ReturnsInHanded {} Tryd.checked os 5 .any (fun w args => (Rows.boothSealsSpec.pre enc Tryd.prog Tryd.f5 [] false w args ∧ laidMetH Tryd.prog laidL w) ∧ sizedMet enc Tryd.prog Tryd.f5 (OpenSpec.ofChange Rows.boothSealsSpec) false w args) (Rows.boothSealsSpec.post enc Tryd.prog Tryd.f5 false true false false) := by
  refine returnsInHanded_of_change_and (C := Tryd.checked) (X := fun w _ => laidMetH Tryd.prog laidL w) (fun _ _ _ hh h => h.of_heap hh) own started (by kernel_rfl) Tryd.func5
    (ChangeSpec.witness_shaped (enc := enc) (C := Tryd.checked) (os := os) (X := fun w _ => laidMetH Tryd.prog laidL w) false (World.doorLaid Tryd.prog 19 os) #[.agg #[.int .u64 0, .int .u64 0, .int .u64 0], .int .u64 0, .int .i64 0, .slice none 0 0, .bool false, .agg (Array.replicate 32 (.int .u8 0))] 8 rfl (World.shaped_of_RefB (by kernel_rfl) (by kernel_rfl)) (by kernel_rfl) (by kernel_rfl) (by kernel_rfl) (door_met os _)) ?_
  intro W base args ds gs before hval0 hW _ _ hL _
  have hT := tabs_of_laid hL
  clear hL
  have hval : ∀ (j : Nat) t v, Tryd.f5.params[j]? = some t → args[j]? = some v → Value.okWide Tryd.prog W .any base t v := hval0
  have hW' := hW
  obtain ⟨p, q, hA0, hV, rfl, hfz, hnd⟩ := hW
  have hA : DataW.TrodAll enc Tryd.prog W 0 (fun _ => true) true Tryd.f5.params.toList args.toList ds p := hA0
  rw [Tryd.params5] at hA hval
  have hK := hA
  obtain ⟨v0, vs0, d0, ds0, p0, q0, hargs, rfl, rfl, h0, r0⟩ := trodAll_cons hA
  obtain ⟨v1, vs1, d1, ds1, p1, q1, rfl, rfl, rfl, h1, r1⟩ := trodAll_cons r0
  obtain ⟨v2, vs2, d2, ds2, p2, q2, rfl, rfl, rfl, h2, r2⟩ := trodAll_cons r1
  obtain ⟨v3, vs3, d3, ds3, p3, q3, rfl, rfl, rfl, h3, r3⟩ := trodAll_cons r2
  obtain ⟨v4, vs4, d4, ds4, p4, q4, rfl, rfl, rfl, h4, r4⟩ := trodAll_cons r3
  obtain ⟨v5, vs5, d5, ds5, p5, q5, rfl, rfl, rfl, h5, r5⟩ := trodAll_cons r4
  obtain ⟨rfl, rfl, rfl⟩ := trodAll_nil r5
  obtain rfl : args = #[v0, v1, v2, v3, v4, v5] := by cases args; simp_all
  obtain ⟨rfl, rfl⟩ := trodVars_none hV
  obtain ⟨P, Q, G, rfl, uP, uQ, uG⟩ := open_group (hval 0 49 v0 rfl rfl) h0
  obtain ⟨y, rfl, uy⟩ := open_u64 (hval 1 24 v1 rfl rfl) h1
  obtain ⟨n, rfl, hn⟩ := open_i64 (hval 2 3 v2 rfl rfl) h2
  obtain ⟨a, m, c, ms, rfl, hS, hu, hk, hm⟩ := open_marks (hval 3 54 v3 rfl rfl) h3
  obtain ⟨one, rfl, u1⟩ := open_boolT (hval 4 4 v4 rfl rfl) h4
  obtain ⟨seed, rfl, hd1, hd2⟩ := open_d32 (hval 5 37 v5 rfl rfl) h5
  clear hA0 hval0
  refine (walk P Q G y n a m c ms one seed W uP uQ uG uy hn hS hu hk hm u1 hd1 hd2 hT).mono fun e W' ⟨he, bel⟩ => ?_
  subst he
  exact ⟨_, rfl, _, _, _, [], _, [], hW', trodAll_mk1 (shut_bool Tryd.underlying4 _), trodAll_stays laidOut (by kernel_rfl) hK bel, rfl, bel.frame _, fun h => by cases h⟩

theorem over : Rows.boothSealsRow.holds Tryd.pinned (OpenSpec.ofChange Rows.boothSealsSpec) :=
  OpenClaim.holds_of_wide 5 Tryd.f5 rfl rfl rfl rfl rfl rfl rfl ⟨rfl, rfl, rfl, rfl, rfl⟩ rfl rfl rfl rfl rfl (by kernel_rfl) Tryd.func5 (by kernel_rfl)
    (of_decide_eq_true (by kernel_rfl)) (by unfold Func.isWrapper; first | (rw [if_pos (by decide +kernel)]; kernel_rfl) | (rw [if_neg (by decide +kernel)]; exact ⟨rfl, rfl⟩))
    (fun os started H enc _ => lifted os started H enc)

theorem proved : Rows.BoothSealsCardSaid :=
  Claim7.holds_tied_plain_at .later [] [.data, .data] true (true, "5c00805133dfe0492bef048290696ebc112b228b3b9245def032e3bbb51dd56e") false
    over (fun _ h => by cases h) (by kernel_rfl) (fun _ h => by cases h) boothSeals_row_tie rfl ⟨rfl, rfl⟩ (by kernel_rfl) rfl
    (fun f fn hf hfn => by
      obtain rfl : f = 5 := Option.some.inj ((show Tryd.prog.funcNamed "suffrage/suffragelaw36.BoothSeals" = some 5 by kernel_rfl).symm.trans hf) |>.symm
      obtain rfl : fn = Tryd.f5 := (Option.some.inj (Tryd.func5.symm.trans hfn)).symm
      exact ⟨by kernel_rfl, fun j t ht => by
        rw [Tryd.params5] at ht
        have hm : t ∈ ([49, 24, 3, 54, 4, 37] : List TypeId) := by simpa using Array.mem_of_getElem? ht
        have hall : (([49, 24, 3, 54, 4, 37] : List TypeId).all fun u => !Tryd.prog.wantsStandIn u) = true := by kernel_rfl
        exact (show Tryd.prog.wantsStandIn t = false by simpa using List.all_eq_true.1 hall t hm)⟩)
    (by kernel_rfl)
#print axioms proved
end Go.Proofs.YtlbldpkgnonbpaaDoor.lawSeals
