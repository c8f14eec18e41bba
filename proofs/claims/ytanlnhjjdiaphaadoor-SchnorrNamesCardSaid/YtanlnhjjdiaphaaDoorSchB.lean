/- schnorr.Holds. -/
import Derived.Test.YtanlnhjjdiaphaaDoorSchA
namespace Go.Proofs.YtanlnhjjdiaphaaDoor
open Go.RowKit Num
set_option linter.unusedSimpArgs false
set_option linter.unusedVariables false
/-- A number and an error in the two cells of a block. -/
structure Side (w : World) (b : Nat) (x y : Int) : Prop where
  c0 : w.cell? ⟨b, 0, none⟩ = some (.int .u64 x)
  c1 : w.cell? ⟨b, 1, none⟩ = some (.int .i64 y)
  f0 : w.frozen? ⟨b, 0, none⟩ = false
  f1 : w.frozen? ⟨b, 1, none⟩ = false
  lt : b < w.heap.size

theorem Side.new (w : World) (x y : Int) (T : TypeId) : Side (w.alloc (.cells #[.int .u64 x, .int .i64 y] T)) w.heap.size x y := by
  refine ⟨?_, ?_, ?_, ?_, by simp⟩
  · rw [World.cell?_alloc_new]; rfl
  · rw [World.cell?_alloc_new]; rfl
  · simp
  · simp
theorem Side.at (w : World) (x y : Int) (T : TypeId) (b : Nat) (hb : b = w.heap.size) : Side (w.alloc (.cells #[.int .u64 x, .int .i64 y] T)) b x y := by
  rw [hb]; exact Side.new w x y T
theorem Side.keep {w w' : World} {b : Nat} {x y : Int} (h : Side w b x y) (hb : Below w.heap.size w w') : Side w' b x y :=
  ⟨(hb.cell (p := ⟨b, 0, none⟩) h.lt).trans h.c0, (hb.cell (p := ⟨b, 1, none⟩) h.lt).trans h.c1, (hb.frozen (p := ⟨b, 0, none⟩) h.lt).trans h.f0, (hb.frozen (p := ⟨b, 1, none⟩) h.lt).trans h.f1, Nat.lt_of_lt_of_le h.lt hb.size⟩
theorem Side.drew {w : World} {b : Nat} {x y : Int} (h : Side w b x y) : Side w.drew b x y := h.keep (Below.refl _ _).drew
theorem Side.alloc {w : World} {b : Nat} {x y : Int} (h : Side w b x y) (o : Obj) : Side (w.alloc o) b x y := h.keep ((Below.refl _ _).alloc (Nat.le_refl _) o)
theorem Side.first {w : World} {b : Nat} {x y : Int} (h : Side w b x y) (x' : Int) : Side (w.setCell ⟨b, 0, none⟩ (.int .u64 x')) b x' y := by
  refine ⟨World.cell?_setCell_same _ _ _ h.c0, ?_, ?_, ?_, by simpa using h.lt⟩
  · rw [World.cell?_setCell_other _ _ _ _ (by simp)]; exact h.c1
  · rw [World.frozen?_setCell]; exact h.f0
  · rw [World.frozen?_setCell]; exact h.f1
theorem Side.second {w : World} {b : Nat} {x y : Int} (h : Side w b x y) (y' : Int) : Side (w.setCell ⟨b, 1, none⟩ (.int .i64 y')) b x y' := by
  refine ⟨?_, World.cell?_setCell_same _ _ _ h.c1, ?_, ?_, by simpa using h.lt⟩
  · rw [World.cell?_setCell_other _ _ _ _ (by simp)]; exact h.c0
  · rw [World.frozen?_setCell]; exact h.f0
  · rw [World.frozen?_setCell]; exact h.f1
theorem Side.stored {w : World} {b : Nat} {x y : Int} (h : Side w b x y) (x' y' : Int) : Side ((w.setCell ⟨b, 0, none⟩ (.int .u64 x')).setCell ⟨b, 1, none⟩ (.int .i64 y')) b x' y' := (h.first x').second y'
theorem Side.far {w : World} {b c o : Nat} {x y : Int} (h : Side w b x y) (hn : c ≠ b) (v : Value) : Side (w.setCell ⟨c, o, none⟩ v) b x y := by
  refine ⟨?_, ?_, ?_, ?_, by simpa using h.lt⟩
  · rw [World.cell?_setCell_other _ _ _ _ (fun e => hn (congrArg Addr.block e))]; exact h.c0
  · rw [World.cell?_setCell_other _ _ _ _ (fun e => hn (congrArg Addr.block e))]; exact h.c1
  · rw [World.frozen?_setCell]; exact h.f0
  · rw [World.frozen?_setCell]; exact h.f1

set_option maxHeartbeats 8000000 in
theorem sholds_any {P Q G y r c s e' : Int} {v : Bool} (w : World) (hP : 0 ≤ P) (hQ : 0 ≤ Q) (hG : 0 ≤ G) (y0 : 0 ≤ y) (r0 : 0 ≤ r) (c0 : 0 ≤ c) (s0 : 0 ≤ s) (h : RetB (askS P Q G [c, s] [y, r]) (powm G s P = r * powm y c P % P) v e') :
    Calls Tryd.prog 20 #[.agg #[.int .u64 P, .int .u64 Q, .int .u64 G], .int .u64 y, .int .u64 r, .int .u64 c, .int .u64 s] w fun e w' => e = .returned (.tuple #[.bool v, .int .i64 e']) ∧ Below w.heap.size w w' := by
  rcases h with ⟨h, hv, rfl⟩ | ⟨h, rfl, hc⟩
  · obtain ⟨hH, he, hn⟩ := askS_zero h
    have cQ := he c (by simp)
    have sQ := he s (by simp)
    have yP := hn y (by simp)
    have rP := hn r (by simp)
    have HR := Lib.hid h
    have HV := Lib.hid hv
    clear h hv he hn
    obtain ⟨p5, p3, hQ', pq, g2, gP⟩ := id hH
    have hP1 : 1 ≤ P := by omega
    have hGM : G < 2147483648 := by omega
    have q3 : Q < 1073741824 := by omega
    have HH := Lib.hid hH
    clear hH pq
    have UC := Lib.hid (U64.of_lt c0 (by omega))
    have US := Lib.hid (U64.of_lt s0 (by omega))
    obtain ⟨a, ha⟩ : ∃ a, powm G s P = a := ⟨_, rfl⟩
    obtain ⟨b, hb⟩ : ∃ b, powm y c P = b := ⟨_, rfl⟩
    have q0 : 0 ≤ b := by rw [← hb]; exact powm_nonneg (by omega)
    have qP : b < P := by rw [← hb]; exact powm_lt (by omega)
    obtain ⟨t, ht⟩ : ∃ t, r * b % P = t := ⟨_, rfl⟩
    have HZ := Lib.hid (show (a == t) = v by have hv := HV.out; rw [ha, hb, ht] at hv; rw [Bool.eq_iff_iff, hv]; simp)
    have HA := Lib.hid ha
    have HB := Lib.hid hb
    have HT := Lib.hid ht
    clear ha hb ht
    have F_g := Lib.hid (show Boxed (((w.alloc (.cells #[.int .u64 P, .int .u64 Q, .int .u64 G] 24)).alloc (.cells #[.int .u64 c, .int .u64 s] 22)).alloc (.cells #[.int .u64 y, .int .u64 r] 22)) (w.heap.size) P Q G from ((Boxed.at _ P Q G _ (w.heap.size) (by simp)).alloc _).alloc _)
    have F_es := Lib.hid (show ShL (((w.alloc (.cells #[.int .u64 P, .int .u64 Q, .int .u64 G] 24)).alloc (.cells #[.int .u64 c, .int .u64 s] 22)).alloc (.cells #[.int .u64 y, .int .u64 r] 22)) (some ⟨w.heap.size + 1, 0, none⟩) 2 2 [c, s] from (ShL.laid _ [c, s] _ _ (w.heap.size + 1) _ _ (by simp) rfl rfl).alloc _)
    have F_ns := Lib.hid (show ShL (((w.alloc (.cells #[.int .u64 P, .int .u64 Q, .int .u64 G] 24)).alloc (.cells #[.int .u64 c, .int .u64 s] 22)).alloc (.cells #[.int .u64 y, .int .u64 r] 22)) (some ⟨w.heap.size + 1 + 1, 0, none⟩) 2 2 [y, r] from ShL.laid _ [y, r] _ _ (w.heap.size + 1 + 1) _ _ (by simp) rfl rfl)
    have HBW := Lib.hid (show Below w.heap.size w (((w.alloc (.cells #[.int .u64 P, .int .u64 Q, .int .u64 G] 24)).alloc (.cells #[.int .u64 c, .int .u64 s] 22)).alloc (.cells #[.int .u64 y, .int .u64 r] 22)) from (((Below.refl _ _).alloc (by simp <;> omega) _).alloc (by simp <;> omega) _).alloc (by simp <;> omega) _)
    go_enter Tryd.func20, Tryd.ntmps20
    obtain ⟨x0a, x0b, x0c, -⟩ := id F_g.out
    go_wp2_with fail
    clear x0a x0b x0c
    refine (scheck_any _ hP hQ hG F_es.out F_ns.out (by simp) (by simp) HR.out).mono ?_
    rintro e w1 ⟨rfl, hb1⟩
    replace F_g := Lib.hid (F_g.out.keep hb1)
    replace F_es := Lib.hid (F_es.out.keep hb1)
    replace F_ns := Lib.hid (F_ns.out.keep hb1)
    replace HBW := Lib.hid (HBW.out.trans (hb1.mono HBW.out.size))
    clear hb1
    clear F_es
    clear F_ns
    have hzg := F_g.out.lt
    have hbz := HBW.out.size
    obtain ⟨x0a, x0b, x0c, -⟩ := id F_g.out
    go_wp2_with fail
    clear x0a x0b x0c
    replace F_g := Lib.hid ((F_g.out.alloc (.cells #[.int .u64 0, .int .i64 0] 72)).alloc (.cells #[.int .u64 0, .int .i64 0] 72))
    have F_one := Lib.hid ((Side.at w1 0 0 72 (w1.heap.size) rfl).alloc (.cells #[.int .u64 0, .int .i64 0] 72))
    have F_two := Lib.hid (Side.at (w1.alloc (.cells #[.int .u64 0, .int .i64 0] 72)) 0 0 72 (w1.heap.size + 1) (by simp))
    replace HBW := Lib.hid ((HBW.out.alloc HBW.out.size (.cells #[.int .u64 0, .int .i64 0] 72)).alloc (by simp <;> omega) (.cells #[.int .u64 0, .int .i64 0] 72))
    refine (pow_ok P Q G G s a _ HH.out hG gP US.out HA.out).mono ?_
    rintro e w2 ⟨rfl, hb2⟩
    replace F_g := Lib.hid (F_g.out.keep hb2)
    replace F_one := Lib.hid (F_one.out.keep hb2)
    replace F_two := Lib.hid (F_two.out.keep hb2)
    replace HBW := Lib.hid (HBW.out.trans (hb2.mono HBW.out.size))
    clear hb2
    obtain ⟨x0a, x0b, x0c, -⟩ := id F_g.out
    obtain ⟨y0a, y0b, y0c, y0d, -⟩ := id F_one.out
    obtain ⟨y1a, y1b, y1c, y1d, -⟩ := id F_two.out
    go_wp2_with fail
    clear x0a x0b x0c y0a y0b y0c y0d y1a y1b y1c y1d
    replace F_one := Lib.hid (F_one.out.stored a 0)
    replace F_g := Lib.hid ((F_g.out.far (c := w1.heap.size) (o := 0) (by omega) (.int .u64 a)).far (c := w1.heap.size) (o := 1) (by omega) (.int .i64 0))
    replace F_two := Lib.hid ((F_two.out.far (c := w1.heap.size) (o := 0) (by omega) (.int .u64 a)).far (c := w1.heap.size) (o := 1) (by omega) (.int .i64 0))
    replace HBW := Lib.hid ((HBW.out.setCell (p := ⟨w1.heap.size, 0, none⟩) (show w.heap.size ≤ w1.heap.size by omega) (.int .u64 a)).setCell (p := ⟨w1.heap.size, 1, none⟩) (show w.heap.size ≤ w1.heap.size by omega) (.int .i64 0))
    refine (pow_ok P Q G y c b _ HH.out y0 yP UC.out HB.out).mono ?_
    rintro e w3 ⟨rfl, hb3⟩
    replace F_g := Lib.hid (F_g.out.keep hb3)
    replace F_one := Lib.hid (F_one.out.keep hb3)
    replace F_two := Lib.hid (F_two.out.keep hb3)
    replace HBW := Lib.hid (HBW.out.trans (hb3.mono HBW.out.size))
    clear hb3
    obtain ⟨x0a, x0b, x0c, -⟩ := id F_g.out
    obtain ⟨y0a, y0b, y0c, y0d, -⟩ := id F_one.out
    obtain ⟨y1a, y1b, y1c, y1d, -⟩ := id F_two.out
    go_wp2_with fail
    clear x0a x0b x0c y0a y0b y0c y0d y1a y1b y1c y1d
    refine (mul_ok P Q G r b t _ HH.out r0 rP q0 qP HT.out).mono ?_
    rintro e w4 ⟨rfl, hb4⟩
    replace F_g := Lib.hid (F_g.out.keep hb4)
    replace F_one := Lib.hid (F_one.out.keep hb4)
    replace F_two := Lib.hid (F_two.out.keep hb4)
    replace HBW := Lib.hid (HBW.out.trans (hb4.mono HBW.out.size))
    clear hb4
    by_cases hat : a = t
    case neg =>
      have hq : (a == t) = false := by simpa using hat
      have HW := Lib.hid (show false = v by rw [← HZ.out, hq])
      obtain ⟨x0a, x0b, x0c, -⟩ := id F_g.out
      obtain ⟨y0a, y0b, y0c, y0d, -⟩ := id F_one.out
      obtain ⟨y1a, y1b, y1c, y1d, -⟩ := id F_two.out
      go_wp2_with fail
      clear x0a x0b x0c y0a y0b y0c y0d y1a y1b y1c y1d
      replace F_two := Lib.hid (F_two.out.stored t 0)
      replace F_g := Lib.hid ((F_g.out.far (c := w1.heap.size + 1) (o := 0) (by omega) (.int .u64 t)).far (c := w1.heap.size + 1) (o := 1) (by omega) (.int .i64 0))
      replace F_one := Lib.hid ((F_one.out.far (c := w1.heap.size + 1) (o := 0) (by omega) (.int .u64 t)).far (c := w1.heap.size + 1) (o := 1) (by omega) (.int .i64 0))
      replace HBW := Lib.hid ((HBW.out.setCell (p := ⟨w1.heap.size + 1, 0, none⟩) (show w.heap.size ≤ w1.heap.size + 1 by omega) (.int .u64 t)).setCell (p := ⟨w1.heap.size + 1, 1, none⟩) (show w.heap.size ≤ w1.heap.size + 1 by omega) (.int .i64 0))
      go_ret2
      exact ⟨ret_bi HW.out rfl, HBW.out⟩
    case pos =>
      subst hat
      have HW := Lib.hid (show true = v by rw [← HZ.out]; simp)
      obtain ⟨x0a, x0b, x0c, -⟩ := id F_g.out
      obtain ⟨y0a, y0b, y0c, y0d, -⟩ := id F_one.out
      obtain ⟨y1a, y1b, y1c, y1d, -⟩ := id F_two.out
      go_wp2_with fail
      clear x0a x0b x0c y0a y0b y0c y0d y1a y1b y1c y1d
      replace F_two := Lib.hid (F_two.out.stored a 0)
      replace F_g := Lib.hid ((F_g.out.far (c := w1.heap.size + 1) (o := 0) (by omega) (.int .u64 a)).far (c := w1.heap.size + 1) (o := 1) (by omega) (.int .i64 0))
      replace F_one := Lib.hid ((F_one.out.far (c := w1.heap.size + 1) (o := 0) (by omega) (.int .u64 a)).far (c := w1.heap.size + 1) (o := 1) (by omega) (.int .i64 0))
      replace HBW := Lib.hid ((HBW.out.setCell (p := ⟨w1.heap.size + 1, 0, none⟩) (show w.heap.size ≤ w1.heap.size + 1 by omega) (.int .u64 a)).setCell (p := ⟨w1.heap.size + 1, 1, none⟩) (show w.heap.size ≤ w1.heap.size + 1 by omega) (.int .i64 0))
      go_ret2
      exact ⟨ret_bi HW.out rfl, HBW.out⟩
  · have hnc : e' ≠ 0 := by rw [hc]; exact h
    have hn1 : (e' != 0) = true := by simpa using hnc
    have HR := Lib.hid hc.symm
    clear hc h hnc
    have F_g := Lib.hid (show Boxed (((w.alloc (.cells #[.int .u64 P, .int .u64 Q, .int .u64 G] 24)).alloc (.cells #[.int .u64 c, .int .u64 s] 22)).alloc (.cells #[.int .u64 y, .int .u64 r] 22)) (w.heap.size) P Q G from ((Boxed.at _ P Q G _ (w.heap.size) (by simp)).alloc _).alloc _)
    have F_es := Lib.hid (show ShL (((w.alloc (.cells #[.int .u64 P, .int .u64 Q, .int .u64 G] 24)).alloc (.cells #[.int .u64 c, .int .u64 s] 22)).alloc (.cells #[.int .u64 y, .int .u64 r] 22)) (some ⟨w.heap.size + 1, 0, none⟩) 2 2 [c, s] from (ShL.laid _ [c, s] _ _ (w.heap.size + 1) _ _ (by simp) rfl rfl).alloc _)
    have F_ns := Lib.hid (show ShL (((w.alloc (.cells #[.int .u64 P, .int .u64 Q, .int .u64 G] 24)).alloc (.cells #[.int .u64 c, .int .u64 s] 22)).alloc (.cells #[.int .u64 y, .int .u64 r] 22)) (some ⟨w.heap.size + 1 + 1, 0, none⟩) 2 2 [y, r] from ShL.laid _ [y, r] _ _ (w.heap.size + 1 + 1) _ _ (by simp) rfl rfl)
    have HBW := Lib.hid (show Below w.heap.size w (((w.alloc (.cells #[.int .u64 P, .int .u64 Q, .int .u64 G] 24)).alloc (.cells #[.int .u64 c, .int .u64 s] 22)).alloc (.cells #[.int .u64 y, .int .u64 r] 22)) from (((Below.refl _ _).alloc (by simp <;> omega) _).alloc (by simp <;> omega) _).alloc (by simp <;> omega) _)
    go_enter Tryd.func20, Tryd.ntmps20
    obtain ⟨x0a, x0b, x0c, -⟩ := id F_g.out
    go_wp2_with fail
    clear x0a x0b x0c
    refine (scheck_any _ hP hQ hG F_es.out F_ns.out (by simp) (by simp) HR.out).mono ?_
    rintro e w1 ⟨rfl, hb1⟩
    replace F_g := Lib.hid (F_g.out.keep hb1)
    replace F_es := Lib.hid (F_es.out.keep hb1)
    replace F_ns := Lib.hid (F_ns.out.keep hb1)
    replace HBW := Lib.hid (HBW.out.trans (hb1.mono HBW.out.size))
    clear hb1
    clear F_es
    clear F_ns
    obtain ⟨x0a, x0b, x0c, -⟩ := id F_g.out
    go_wp2_with fail
    go_ret2
    exact ⟨rfl, HBW.out⟩
end Go.Proofs.YtanlnhjjdiaphaaDoor
