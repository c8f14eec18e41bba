/- shamir.Merge of no deal. -/
import Derived.Test.YtjfaaicbojnpaaaMrgB
namespace Go.Proofs.Ytjfaaicbojnpaaa
open Go.RowKit Num
set_option linter.unusedSimpArgs false
set_option linter.unusedVariables false

set_option maxRecDepth 100000 in
set_option maxHeartbeats 8000000 in
theorem smerge_nil {P Q G er : Int} {ps ss : List Int} (w : World) (hP : 0 ≤ P) (hQ : 0 ≤ Q) (hG : 0 ≤ G) (hv : mergeS P Q G [] = (er, ps, ss)) :
    Calls Try.prog 15 #[.agg #[.int .u64 P, .int .u64 Q, .int .u64 G], .slice none 0 0] w (RetDeal w er ps ss) := by
  have hmf : ∀ (fn : Fn) (first cap : Array Value) (w : World), (Instr.makeFunc fn first cap).run Try.prog w = .ok (.func fn first cap) w := fun _ _ _ _ => rfl
  by_cases hH : Has P Q G
  case neg =>
    obtain ⟨rfl, hps0⟩ := Prod.mk.inj (show (300, [], []) = (er, ps, ss) by rw [← hv]; simp [mergeS, hH])
    obtain ⟨rfl, rfl⟩ := Prod.mk.inj hps0
    have HH := Lib.hid hH
    clear hv hH hps0
    have F_g := Lib.hid (show Boxed (((w.alloc (.cells #[.int .u64 P, .int .u64 Q, .int .u64 G] 24)).alloc (.cells #[.slice none 0 0] 33)).alloc (.cells #[.slice none 0 0, .slice none 0 0] 27)) w.heap.size P Q G from ((Boxed.at _ P Q G _ w.heap.size (by simp)).alloc _).alloc _)
    have F_l := Lib.hid (show OneAt (((w.alloc (.cells #[.int .u64 P, .int .u64 Q, .int .u64 G] 24)).alloc (.cells #[.slice none 0 0] 33)).alloc (.cells #[.slice none 0 0, .slice none 0 0] 27)) (w.heap.size + 1) (.slice none 0 0) from (OneAt.at _ _ _ (w.heap.size + 1) (by simp)).alloc _)
    have F_b := Lib.hid (show DealBox (((w.alloc (.cells #[.int .u64 P, .int .u64 Q, .int .u64 G] 24)).alloc (.cells #[.slice none 0 0] 33)).alloc (.cells #[.slice none 0 0, .slice none 0 0] 27)) (w.heap.size + 2) (.slice none 0 0) (.slice none 0 0) from DealBox.at _ _ _ _ (w.heap.size + 1 + 1) (by simp))
    have HBW := Lib.hid (show Below w.heap.size w (((w.alloc (.cells #[.int .u64 P, .int .u64 Q, .int .u64 G] 24)).alloc (.cells #[.slice none 0 0] 33)).alloc (.cells #[.slice none 0 0, .slice none 0 0] 27)) from (((Below.refl _ _).alloc (by simp <;> omega) _).alloc (by simp <;> omega) _).alloc (by simp <;> omega) _)
    go_enter Try.func15, Try.ntmps15
    obtain ⟨g0, g1', g2', -⟩ := id F_g.out
    obtain ⟨l0, l1, -⟩ := id F_l.out
    obtain ⟨y0, y1, y2, y3, -⟩ := id F_b.out
    go_wp2_with fail
    clear g0 g1' g2' l0 l1 y0 y1 y2 y3
    refine (form_no P Q G _ hP hQ hG HH.out).mono ?_
    rintro e w1 ⟨rfl, hb1⟩
    replace F_g := Lib.hid (F_g.out.keep hb1)
    replace F_l := Lib.hid (F_l.out.keep hb1)
    replace F_b := Lib.hid (F_b.out.keep hb1)
    replace HBW := Lib.hid (HBW.out.trans (hb1.mono HBW.out.size))
    clear hb1
    obtain ⟨g0, g1', g2', -⟩ := id F_g.out
    obtain ⟨l0, l1, -⟩ := id F_l.out
    obtain ⟨y0, y1, y2, y3, -⟩ := id F_b.out
    go_wp2_with fail
    clear g0 g1' g2' l0 l1 y0 y1 y2 y3
    exact bodyPost_ret (res_deal rfl (F_b.out.stored (.slice none 0 0) (.slice none 0 0)) _ rfl rfl rfl rfl) rfl ⟨_, _, rfl, OwnU.nil _ _, OwnU.nil _ _, (HBW.out.setCell (p := ⟨w.heap.size + 2, 0, none⟩) (by show w.heap.size ≤ w.heap.size + 2; omega) _).setCell (p := ⟨w.heap.size + 2, 1, none⟩) (by show w.heap.size ≤ w.heap.size + 2; omega) _⟩
  case pos =>
    obtain ⟨rfl, hps0⟩ := Prod.mk.inj (show (2, [], []) = (er, ps, ss) by rw [← hv]; simp [mergeS, hH])
    obtain ⟨rfl, rfl⟩ := Prod.mk.inj hps0
    have HH := Lib.hid hH
    clear hv hH hps0
    have F_g := Lib.hid (show Boxed (((w.alloc (.cells #[.int .u64 P, .int .u64 Q, .int .u64 G] 24)).alloc (.cells #[.slice none 0 0] 33)).alloc (.cells #[.slice none 0 0, .slice none 0 0] 27)) w.heap.size P Q G from ((Boxed.at _ P Q G _ w.heap.size (by simp)).alloc _).alloc _)
    have F_l := Lib.hid (show OneAt (((w.alloc (.cells #[.int .u64 P, .int .u64 Q, .int .u64 G] 24)).alloc (.cells #[.slice none 0 0] 33)).alloc (.cells #[.slice none 0 0, .slice none 0 0] 27)) (w.heap.size + 1) (.slice none 0 0) from (OneAt.at _ _ _ (w.heap.size + 1) (by simp)).alloc _)
    have F_b := Lib.hid (show DealBox (((w.alloc (.cells #[.int .u64 P, .int .u64 Q, .int .u64 G] 24)).alloc (.cells #[.slice none 0 0] 33)).alloc (.cells #[.slice none 0 0, .slice none 0 0] 27)) (w.heap.size + 2) (.slice none 0 0) (.slice none 0 0) from DealBox.at _ _ _ _ (w.heap.size + 1 + 1) (by simp))
    have HBW := Lib.hid (show Below w.heap.size w (((w.alloc (.cells #[.int .u64 P, .int .u64 Q, .int .u64 G] 24)).alloc (.cells #[.slice none 0 0] 33)).alloc (.cells #[.slice none 0 0, .slice none 0 0] 27)) from (((Below.refl _ _).alloc (by simp <;> omega) _).alloc (by simp <;> omega) _).alloc (by simp <;> omega) _)
    go_enter Try.func15, Try.ntmps15
    obtain ⟨g0, g1', g2', -⟩ := id F_g.out
    obtain ⟨l0, l1, -⟩ := id F_l.out
    obtain ⟨y0, y1, y2, y3, -⟩ := id F_b.out
    go_wp2_with fail
    clear g0 g1' g2' l0 l1 y0 y1 y2 y3
    refine (form_yes P Q G _ HH.out).mono ?_
    rintro e w1 ⟨rfl, hb1⟩
    replace F_g := Lib.hid (F_g.out.keep hb1)
    replace F_l := Lib.hid (F_l.out.keep hb1)
    replace F_b := Lib.hid (F_b.out.keep hb1)
    replace HBW := Lib.hid (HBW.out.trans (hb1.mono HBW.out.size))
    clear hb1
    obtain ⟨g0, g1', g2', -⟩ := id F_g.out
    obtain ⟨l0, l1, -⟩ := id F_l.out
    obtain ⟨y0, y1, y2, y3, -⟩ := id F_b.out
    go_wp2_with fail
    clear g0 g1' g2' l0 l1 y0 y1 y2 y3
    exact bodyPost_ret (res_deal rfl (F_b.out.stored (.slice none 0 0) (.slice none 0 0)) _ rfl rfl rfl rfl) rfl ⟨_, _, rfl, OwnU.nil _ _, OwnU.nil _ _, (HBW.out.setCell (p := ⟨w.heap.size + 2, 0, none⟩) (by show w.heap.size ≤ w.heap.size + 2; omega) _).setCell (p := ⟨w.heap.size + 2, 1, none⟩) (by show w.heap.size ≤ w.heap.size + 2; omega) _⟩
end Go.Proofs.Ytjfaaicbojnpaaa
