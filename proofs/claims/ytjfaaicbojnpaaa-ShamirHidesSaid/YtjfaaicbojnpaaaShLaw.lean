/- What the laws of layer 34 share. -/
import Derived.Test.YtjfaaicbojnpaaaShC
namespace Go.Proofs.Ytjfaaicbojnpaaa
open Go.RowKit Num
set_option linter.unusedSimpArgs false
set_option linter.unusedVariables false

theorem ShI.alloc {q : IntKind} {w : World} {a : Option Addr} {n : Nat} {xs : List Int} (h : ShI q w a n xs) (o : Obj) : ShI q (w.alloc o) a n xs := h.keep ((Below.refl _ _).alloc (Nat.le_refl _) o)
theorem ShI.drew {q : IntKind} {w : World} {a : Option Addr} {n : Nat} {xs : List Int} (h : ShI q w a n xs) : ShI q w.drew a n xs := h.keep (Below.refl _ _).drew
theorem splitS_len (P Q G n : Int) (xs : List Int) {er : Int} {ps ss : List Int} (h : splitS P Q G n xs = (er, ps, ss)) : ps.length ≤ 8 ∧ ss.length ≤ 8 := by
  unfold splitS at h
  split at h
  · split at h
    · rename_i hb
      obtain ⟨-, h⟩ := Prod.mk.inj h
      obtain ⟨rfl, rfl⟩ := Prod.mk.inj h
      simp only [Bool.and_eq_true] at hb
      obtain ⟨h1, h2, h3⟩ := hb
      have a := belowS_true h1
      have b := numS_true h3
      rw [pledges_len, shares_len]
      omega
    · obtain ⟨-, h⟩ := Prod.mk.inj h
      obtain ⟨rfl, rfl⟩ := Prod.mk.inj h
      simp
  · obtain ⟨-, h⟩ := Prod.mk.inj h
    obtain ⟨rfl, rfl⟩ := Prod.mk.inj h
    simp
set_option maxHeartbeats 2000000 in
theorem rsame34_any {a1 a2 a3 a4 : Option Addr} {n m c1 c2 c3 c4 : Nat} {xs ys : List Int} (w : World) (h1 : ShI .u64 w a1 n xs) (h2 : ShI .u64 w a2 n xs) (h3 : ShI .u64 w a3 m ys) (h4 : ShI .u64 w a4 m ys) (hn : n ≤ 10000) (hm : m ≤ 10000) :
    Calls Try.prog 17 #[.agg #[.slice a1 n c1, .slice a3 m c3], .agg #[.slice a2 n c2, .slice a4 m c4]] w fun e w' => e = .returned (.bool true) ∧ Below w.heap.size w w' := by
  have H1 := Lib.hid h1
  have H2 := Lib.hid h2
  have H3 := Lib.hid h3
  have H4 := Lib.hid h4
  clear h1 h2 h3 h4
  have F_x := Lib.hid (show DealBox ((w.alloc (.cells #[.slice a1 n c1, .slice a3 m c3] 27)).alloc (.cells #[.slice a2 n c2, .slice a4 m c4] 27)) w.heap.size (.slice a1 n c1) (.slice a3 m c3) from (DealBox.at _ _ _ _ w.heap.size (by simp)).alloc _)
  have F_y := Lib.hid (show DealBox ((w.alloc (.cells #[.slice a1 n c1, .slice a3 m c3] 27)).alloc (.cells #[.slice a2 n c2, .slice a4 m c4] 27)) (w.heap.size + 1) (.slice a2 n c2) (.slice a4 m c4) from DealBox.at _ _ _ _ (w.heap.size + 1) (by simp))
  have HBW := Lib.hid (show Below w.heap.size w ((w.alloc (.cells #[.slice a1 n c1, .slice a3 m c3] 27)).alloc (.cells #[.slice a2 n c2, .slice a4 m c4] 27)) from ((Below.refl _ _).alloc (by simp <;> omega) _).alloc (by simp <;> omega) _)
  go_enter Try.func17, Try.ntmps17
  obtain ⟨x0, x1, -⟩ := id F_x.out
  obtain ⟨y0, y1, -⟩ := id F_y.out
  go_wp2_with fail
  clear x0 x1 y0 y1
  refine (rsame64_any _ (H1.out.keep HBW.out) (H2.out.keep HBW.out) hn).mono ?_
  rintro e w1 ⟨rfl, hb1⟩
  replace F_x := Lib.hid (F_x.out.keep hb1)
  replace F_y := Lib.hid (F_y.out.keep hb1)
  replace HBW := Lib.hid (HBW.out.trans (hb1.mono HBW.out.size))
  clear hb1
  obtain ⟨x0, x1, -⟩ := id F_x.out
  obtain ⟨y0, y1, -⟩ := id F_y.out
  go_wp2_with fail
  clear x0 x1 y0 y1
  refine (rsame64_any _ (H3.out.keep HBW.out) (H4.out.keep HBW.out) hm).mono ?_
  rintro e w2 ⟨rfl, hb2⟩
  replace HBW := Lib.hid (HBW.out.trans (hb2.mono HBW.out.size))
  clear hb2
  go_wp2_with fail
  go_ret
  exact ⟨rfl, HBW.out⟩
end Go.Proofs.Ytjfaaicbojnpaaa
